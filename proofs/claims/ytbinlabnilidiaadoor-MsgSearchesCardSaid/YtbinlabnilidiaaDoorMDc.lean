/- Part of the proof: the runs of functions on the abstract machine. -/
import Derived.Test.YtbinlabnilidiaaDoorPamM4
import Derived.Test.YtbinlabnilidiaaDoorFns
import Derived.Test.YtbinlabnilidiaaDoorMDe
namespace Go.Proofs.YtbinlabnilidiaaDoor.M
open Go Go.Pam Go.RowKit Go.WideShapes
set_option maxRecDepth 8000
set_option linter.unusedVariables false
set_option linter.unusedSimpArgs false

def F28_L0 (k : Nat) (a29 : Sl Str) (a30 : Sl Str) (a31 : Int) : Nat → Int → Option (Out Bool Int)
 | 0, _ => none
 | n + 1, x32 =>
  if decide (x32 < a31) then
  Option.bind (Sl.at? a29 x32) fun y38 =>
  Option.bind (Sl.at? a30 x32) fun y39 =>
  if !(y38 == y39) then
  some (Out.ret false)
  else
  F28_L0 k a29 a30 a31 n (ad .i64 x32 1)
  else
  some (Out.brk x32)
def F28 (k : Nat) (a0 : Sl Str) (a1 : Sl Str) : Option Bool :=
 if (Sl.len a0) != (Sl.len a1) then
 some false
 else
 Option.bind (F28_L0 k a0 a1 (Sl.len a0) k 0) fun y43 =>
 match y43 with
 | .ret y43r => some y43r
 | .brk y43b =>
 some true
theorem l28_L0 {k : Nat} {a29 : Sl Str} {a30 : Sl Str} {a31 : Int} {S0 : List SObj} {R : List Nat} {K : KX}  {o : Out Bool Int}
  (hret : ∀ r : Bool, o = .ret r → EK [(4, (.bool r))] S0 R [] [] [] (K .ret))
  (hbrk : ∀ y : Int, o = .brk y → EK [] S0 R [] [] [] (K (.exit 0))) :
  ∀ {n : Nat} {x32 : Int}, F28_L0 k a29 a30 a31 n x32 = some o → ∀ {σ : Nat → PV} {S : List SObj}, Known [(0, (encSl eS a29)), (1, (encSl eS a30)), (12, (.int .i64 a31)), (13, (.int .i64 x32))] σ → Hp S0 R S [] [] [] → WC env ⟨26, S0.length⟩ (.loop pc28L0) σ S false K := by
 intro n
 induction n with
 | zero => intro _ h; cases h
 | succ n ih =>
  intro x32 h σ S  hk H
  rw [F28_L0] at h
  refine WC.loop <| WC.of_known hk <| WC.seqR <| us 1 rfl <| WO.nil <| WC.seq ?_
  rcases iteS h with ⟨hc42, h⟩ | ⟨hc42, h⟩
  refine WC.condT rfl hc42 <| WC.skip <| KX.seq_n <| WC.seq <| WC.block <| WC.seqR <| us 2 rfl <| WO.nil <| WC.seq <| WC.draw <| wh (encSl eS a29) rfl rfl <| wh (.int .i64 x32) rfl rfl ?_
  obtain ⟨y38, hy38, h⟩ := bindS h
  refine WH.step (v := (.iptr [(.str y38)] 0)) rfl (nz rfl (stp_idxAddr rfl (isSl_enc _ _) rfl rfl rfl hy38 rfl rfl)) rfl rfl <| wh (.str y38) rfl rfl <| wh (encSl eS a30) rfl rfl <| wh (.int .i64 x32) rfl rfl ?_
  obtain ⟨y39, hy39, h⟩ := bindS h
  refine WH.step (v := (.iptr [(.str y39)] 0)) rfl (nz rfl (stp_idxAddr rfl (isSl_enc _ _) rfl rfl rfl hy39 rfl rfl)) rfl rfl <| wh (.str y39) rfl rfl <| WH.nil <| us 1 rfl <| WO.nil <| KX.seq_n ?_
  rcases iteS h with ⟨hc41, h⟩ | ⟨hc41, h⟩
  refine WC.condT rfl hc41 <| WC.seqR <| us 1 rfl <| WO.nil <| WC.ret <| KX.block_r <| KX.seq_r <| KX.seq_r ?_
  have h := oi h; subst h
  exact hret _ rfl kn (hs H)
  refine WC.condF rfl hc41 <| WC.skip <| KX.block_n <| KX.seq_n <| WC.region <| us 2 rfl <| WO.nil <| KX.seq_n ?_
  exact ih h  kn (hs H)
  refine WC.condF rfl hc42 <| WC.exit <| KX.seq_x <| KX.seq_x ?_
  have h := oi h; subst h
  exact hbrk _ rfl  known_nil (hs H)
theorem s28 : ∀ k : Nat, ∀ {a0 : Sl Str} {a1 : Sl Str} {r : Bool}, F28 k a0 a1 = some r → Q 28 [(encSl eS a0), (encSl eS a1)] (.bool r) := by
 intro k a0 a1 r h
 unfold F28 at h
 refine Qe.go (pf := fn28) rfl rfl (Nat.le_of_ble_eq_true rfl) (by simp [PV.clean, cleanL, clean_encSl clean_eS]) rfl rfl fun H => ?_
 refine WC.seqR <| us 1 rfl <| WO.nil <| WC.seq <| WC.seqR <| us 1 rfl <| wl rfl rfl rfl <| us 1 rfl <| wl rfl rfl rfl <| us 1 rfl <| WO.nil ?_
 rcases iteS h with ⟨hc44, h⟩ | ⟨hc44, h⟩
 refine WC.condT rfl hc44 <| WC.seqR <| us 1 rfl <| WO.nil <| WC.ret <| KX.seq_r ?_
 have h := oi h; subst h
 exact kr (.bool false) rfl rfl rfl
 refine WC.condF rfl hc44 <| WC.skip <| KX.seq_n <| WC.seq <| WC.seqR <| us 1 rfl <| wl rfl rfl rfl <| us 1 rfl <| WO.nil ?_
 obtain ⟨y43, hy43, hOy43⟩ := bindS h
 refine WC.block ?_
 refine l28_L0 ?_ ?_ hy43  kn (hs H)
 intro y43r he σ S  hk H; subst he; replace h := hOy43; dsimp only at h
 refine KX.of_known hk <| KX.block_r <| KX.seq_r ?_
 have h := oi h; subst h
 exact kr (.bool y43r) rfl rfl rfl
 intro y43b he σ S  hk H; subst he; replace h := hOy43; dsimp only at h
 refine KX.of_known hk <| KX.block_x <| KX.seq_n <| WC.seqR <| us 1 rfl <| WO.nil <| WC.ret ?_
 have h := oi h; subst h
 exact kr (.bool true) rfl rfl rfl
def F49_27_L0 (rc0 : Api_Filter → Api_Filter → Option Bool) (k : Nat) (a41 : Sl Api_Filter) (a42 : Sl Api_Filter) (a43 : Int) : Nat → Int → Option (Out Bool Int)
 | 0, _ => none
 | n + 1, x44 =>
  if decide (x44 < a43) then
  Option.bind (Sl.at? a42 x44) fun y53 =>
  Option.bind (Sl.at? a41 x44) fun y55 =>
  Option.bind (rc0 y53 y55) fun y57 =>
  if !y57 then
  some (Out.ret false)
  else
  F49_27_L0 rc0 k a41 a42 a43 n (ad .i64 x44 1)
  else
  some (Out.brk x44)
def F49_27 (k : Nat) (rc0 : Api_Filter → Api_Filter → Option Bool) (a0 : Sl Api_Filter) (a1 : Sl Api_Filter) : Option Bool :=
 if (Sl.len a0) != (Sl.len a1) then
 some false
 else
 Option.bind (F49_27_L0 rc0 k a1 a0 (Sl.len a0) k 0) fun y61 =>
 match y61 with
 | .ret y61r => some y61r
 | .brk y61b =>
 some true
theorem l49_27_L0 {rc0 : Api_Filter → Api_Filter → Option Bool} (hrc0 : ∀ {a0 : Api_Filter} {a1 : Api_Filter} {r : Bool}, rc0 a0 a1 = some r → Q 27 [(.agg (c_Api_Filter a0)), (.agg (c_Api_Filter a1))] (.bool r)) {k : Nat} {a41 : Sl Api_Filter} {a42 : Sl Api_Filter} {a43 : Int} {S0 : List SObj} {R : List Nat} {K : KX}  {o : Out Bool Int}
  (hret : ∀ r : Bool, o = .ret r → EK [(6, (.bool r))] S0 R [] [] [] (K .ret))
  (hbrk : ∀ y : Int, o = .brk y → EK [] S0 R [] [] [] (K (.exit 0))) :
  ∀ {n : Nat} {x44 : Int}, F49_27_L0 rc0 k a41 a42 a43 n x44 = some o → ∀ {σ : Nat → PV} {S : List SObj}, Known [(1, (encSl e_Api_Filter a41)), (2, (.fn (.func 27) [] [])), (15, (encSl e_Api_Filter a42)), (16, (.int .i64 a43)), (17, (.int .i64 x44))] σ → Hp S0 R S [] [] [] → WC env ⟨32, S0.length⟩ (.loop pc49L0) σ S false K := by
 intro n
 induction n with
 | zero => intro _ h; cases h
 | succ n ih =>
  intro x44 h σ S  hk H
  rw [F49_27_L0] at h
  refine WC.loop <| WC.of_known hk <| WC.seqR <| us 1 rfl <| WO.nil <| WC.seq ?_
  rcases iteS h with ⟨hc60, h⟩ | ⟨hc60, h⟩
  refine WC.condT rfl hc60 <| WC.skip <| KX.seq_n <| WC.seq <| WC.block <| WC.seqR <| us 1 rfl ?_
  obtain ⟨y53, hy53, h⟩ := bindS h
  refine w (.iptr (c_Api_Filter y53) 0) rfl (nz rfl (stp_idxAddr rfl (isSl_enc _ _) rfl rfl rfl hy53 (e_Api_Filter_cells _) rfl)) <| us 1 rfl <| WO.alloc' (ti := ty28) rfl rfl rfl rfl H ?_
  intro i54 S hi54 H
  refine us 1 rfl <| wos 0 H hi54 rfl rfl rfl rfl rfl rfl rfl rfl rfl rfl ?_
  intro S H
  refine WO.nil <| WC.seqR <| us 2 rfl ?_
  obtain ⟨y55, hy55, h⟩ := bindS h
  refine w (.iptr (c_Api_Filter y55) 0) rfl (nz rfl (stp_idxAddr rfl (isSl_enc _ _) rfl rfl rfl hy55 (e_Api_Filter_cells _) rfl)) <| us 1 rfl <| WO.alloc' (ti := ty28) rfl rfl rfl rfl H ?_
  intro i56 S hi56 H
  refine wos 0 H hi56 rfl rfl rfl rfl rfl rfl rfl rfl rfl rfl ?_
  intro S H
  replace H : Hp S0 R _ [(i56, .cells (c_Api_Filter y55)), (i54, .cells (c_Api_Filter y53))] [] [] := H
  refine WO.nil <| WC.seqR <| us 1 rfl <| wg H 1 rfl rfl rfl rfl <| wg H 0 rfl rfl rfl rfl ?_
  obtain ⟨y57, hy57, h⟩ := bindS h
  refine cl (.bool y57) [(.agg (c_Api_Filter y53)), (.agg (c_Api_Filter y55))] rfl rfl rfl rfl (sv (hrc0 hy57)) <| us 1 rfl <| WO.nil ?_
  rcases iteS h with ⟨hc59, h⟩ | ⟨hc59, h⟩
  refine WC.condT rfl hc59 <| WC.seqR <| us 1 rfl <| WO.nil <| WC.ret <| KX.block_r <| KX.seq_r <| KX.seq_r ?_
  have h := oi h; subst h
  exact hret _ rfl kn (H.sub (.cons _ (.cons _ .slnil)) .slnil .slnil)
  refine WC.condF rfl hc59 <| WC.skip <| KX.block_n <| KX.seq_n <| WC.region <| us 2 rfl <| WO.nil <| KX.seq_n ?_
  exact ih h  kn (H.sub (.cons _ (.cons _ .slnil)) .slnil .slnil)
  refine WC.condF rfl hc60 <| WC.exit <| KX.seq_x <| KX.seq_x ?_
  have h := oi h; subst h
  exact hbrk _ rfl  known_nil (hs H)
theorem s49_27 {rc0 : Api_Filter → Api_Filter → Option Bool} (hrc0 : ∀ {a0 : Api_Filter} {a1 : Api_Filter} {r : Bool}, rc0 a0 a1 = some r → Q 27 [(.agg (c_Api_Filter a0)), (.agg (c_Api_Filter a1))] (.bool r))  : ∀ k : Nat, ∀ {a0 : Sl Api_Filter} {a1 : Sl Api_Filter} {r : Bool}, F49_27 k rc0 a0 a1 = some r → Q 49 [(encSl e_Api_Filter a0), (encSl e_Api_Filter a1), (.fn (.func 27) [] [])] (.bool r) := by
 intro k a0 a1 r h
 unfold F49_27 at h
 refine Qe.go (pf := fn49) rfl rfl (Nat.le_of_ble_eq_true rfl) (by simp [PV.clean, cleanL, clean_encSl clean_Api_Filter]) rfl rfl fun H => ?_
 refine WC.seqR <| us 1 rfl <| WO.nil <| WC.seq <| WC.seqR <| us 1 rfl <| wl rfl rfl rfl <| us 1 rfl <| wl rfl rfl rfl <| us 1 rfl <| WO.nil ?_
 rcases iteS h with ⟨hc62, h⟩ | ⟨hc62, h⟩
 refine WC.condT rfl hc62 <| WC.seqR <| us 1 rfl <| WO.nil <| WC.ret <| KX.seq_r ?_
 have h := oi h; subst h
 exact kr (.bool false) rfl rfl rfl
 refine WC.condF rfl hc62 <| WC.skip <| KX.seq_n <| WC.seq <| WC.seqR <| us 1 rfl <| wl rfl rfl rfl <| us 1 rfl <| WO.nil ?_
 obtain ⟨y61, hy61, hOy61⟩ := bindS h
 refine WC.block ?_
 refine l49_27_L0 hrc0 ?_ ?_ hy61  kn (hs H)
 intro y61r he σ S  hk H; subst he; replace h := hOy61; dsimp only at h
 refine KX.of_known hk <| KX.block_r <| KX.seq_r ?_
 have h := oi h; subst h
 exact kr (.bool y61r) rfl rfl rfl
 intro y61b he σ S  hk H; subst he; replace h := hOy61; dsimp only at h
 refine KX.of_known hk <| KX.block_x <| KX.seq_n <| WC.seqR <| us 1 rfl <| WO.nil <| WC.ret ?_
 have h := oi h; subst h
 exact kr (.bool true) rfl rfl rfl
def F27 : Nat → Api_Filter → Api_Filter → Option Bool
 | 0, _, _ => none
 | k + 1, a0, a1 =>
  Option.bind (if ((a0.Kind == a1.Kind) && (a0.Attr == a1.Attr)) && (a0.Value == a1.Value) then
  Option.bind (F28 k a0.Subs a1.Subs) fun y10 =>
  some y10
  else
  some false) fun y9 =>
  Option.bind (if y9 then
  Option.bind (F49_27 k (F27 k) a0.Kids a1.Kids) fun y17 =>
  some y17
  else
  some false) fun y16 =>
  some y16
theorem s27 : ∀ k : Nat, ∀ {a0 : Api_Filter} {a1 : Api_Filter} {r : Bool}, F27 k a0 a1 = some r → Q 27 [(.agg (c_Api_Filter a0)), (.agg (c_Api_Filter a1))] (.bool r) := by
 intro k
 induction k with
 | zero => intro _ _ r h; cases h
 | succ k ih =>
  intro a0 a1 r h
  rw [F27] at h
  refine Qe.go (pf := fn27) rfl rfl (Nat.le_of_ble_eq_true rfl) (by simp [PV.clean, cleanL, clean_encSl clean_Api_Filter, clean_encSl clean_eS]) rfl rfl fun H => ?_
  refine WC.seqR <| WO.box' rfl rfl rfl rfl rfl H ?_
  intro i1 S hi1 H
  refine WO.box' rfl rfl rfl rfl rfl H ?_
  intro i2 S hi2 H
  refine us 1 rfl <| WO.nil <| WC.seqR <| us 1 rfl <| wg H 1 rfl rfl rfl rfl <| us 1 rfl <| wg H 0 rfl rfl rfl rfl <| w (.bool (a0.Kind == a1.Kind)) rfl rfl <| w (.bool (a0.Kind == a1.Kind)) rfl rfl ?_
  refine WO.split 6 (SH H [(2, (.ptr i1 0)), (3, (.ptr i2 0)), (16, (.bool ((a0.Kind == a1.Kind) && (a0.Attr == a1.Attr))))]) ?_ ?_
  revert H
  cases hc3 : (a0.Kind == a1.Kind)
  intro H
  refine us 6 rfl <| WO.nil ?_
  exact kf H
  intro H
  refine us 1 rfl <| WO.go0 rfl rfl <| wg H 1 rfl rfl rfl rfl <| us 1 rfl <| WO.go0 rfl rfl <| wg H 0 rfl rfl rfl rfl <| us 2 rfl <| WO.nil ?_
  exact kf H
  rintro σ S e ⟨hk, H, rfl⟩
  refine WO.of_known hk <| w (.bool ((a0.Kind == a1.Kind) && (a0.Attr == a1.Attr))) rfl rfl ?_
  refine WO.split 6 (SH H [(2, (.ptr i1 0)), (3, (.ptr i2 0)), (23, (.bool (((a0.Kind == a1.Kind) && (a0.Attr == a1.Attr)) && (a0.Value == a1.Value))))]) ?_ ?_
  revert H
  cases hc4 : ((a0.Kind == a1.Kind) && (a0.Attr == a1.Attr))
  intro H
  refine us 6 rfl <| WO.nil ?_
  exact kf H
  intro H
  refine us 1 rfl <| WO.go0 rfl rfl <| wg H 1 rfl rfl rfl rfl <| us 1 rfl <| WO.go0 rfl rfl <| wg H 0 rfl rfl rfl rfl <| us 2 rfl <| WO.nil ?_
  exact kf H
  rintro σ S e ⟨hk, H, rfl⟩
  refine WO.of_known hk <| w (.bool (((a0.Kind == a1.Kind) && (a0.Attr == a1.Attr)) && (a0.Value == a1.Value))) rfl rfl ?_
  obtain ⟨y9, hy9, hOy9⟩ := bindS h
  refine WO.split 6 (SJ [(2, (.ptr i1 0)), (3, (.ptr i2 0)), (30, (.bool y9))] [] [] [(i2, .cells (c_Api_Filter a1)), (i1, .cells (c_Api_Filter a0))] [] [] false) ?_ ?_
  replace h := hy9
  revert H
  cases hc11 : (((a0.Kind == a1.Kind) && (a0.Attr == a1.Attr)) && (a0.Value == a1.Value))
  intro H
  replace h := iteF h hc11
  refine us 6 rfl <| WO.nil ?_
  have h := oi h; subst h
  exact kh H
  intro H
  replace h := iteT h hc11
  refine us 1 rfl <| WO.go0 rfl rfl <| wg H 1 rfl rfl rfl rfl <| us 1 rfl <| WO.go0 rfl rfl <| wg H 0 rfl rfl rfl rfl <| WO.go0 rfl rfl ?_
  obtain ⟨y10, hy10, h⟩ := bindS h
  refine cl (.bool y10) [(encSl eS a0.Subs), (encSl eS a1.Subs)] rfl rfl rfl (fe rfl (fe rfl rfl)) (sv (s28 _ hy10)) <| us 1 rfl <| WO.nil ?_
  have h := oi h; subst h
  exact kh H
  rintro σ S e ⟨hk, H, rfl⟩
  replace h := hOy9
  refine WO.of_known hk <| us 1 rfl ?_
  obtain ⟨y16, hy16, hOy16⟩ := bindS h
  refine WO.split 6 (SJ [(37, (.bool y16))] [] [] [(i2, .cells (c_Api_Filter a1)), (i1, .cells (c_Api_Filter a0))] [] [] false) ?_ ?_
  replace h := hy16
  revert H
  cases hc18 : y9
  intro H
  replace h := iteF h hc18
  refine us 6 rfl <| WO.nil ?_
  have h := oi h; subst h
  exact kh H
  intro H
  replace h := iteT h hc18
  refine us 1 rfl <| WO.go0 rfl rfl <| wg H 1 rfl rfl rfl rfl <| us 1 rfl <| WO.go0 rfl rfl <| wg H 0 rfl rfl rfl rfl <| WO.go0 rfl rfl ?_
  obtain ⟨y17, hy17, h⟩ := bindS h
  refine cl (.bool y17) [(encSl e_Api_Filter a0.Kids), (encSl e_Api_Filter a1.Kids), (.fn (.func 27) [] [])] rfl rfl rfl (fe rfl (fe rfl (fo rfl rfl))) (sv (s49_27 ih _ hy17)) <| us 1 rfl <| WO.nil ?_
  have h := oi h; subst h
  exact kh H
  rintro σ S e ⟨hk, H, rfl⟩
  replace h := hOy16
  refine WO.of_known hk <| us 1 rfl <| WO.nil <| WC.ret ?_
  have h := oi h; subst h
  exact kr (.bool y16) rfl rfl rfl
def F30 (k : Nat) (a0 : Api_Mod) (a1 : Api_Mod) : Option Bool :=
 Option.bind (if (a0.Kind == a1.Kind) && (a0.Attr == a1.Attr) then
 Option.bind (F28 k a0.Values a1.Values) fun y9 =>
 some y9
 else
 some false) fun y8 =>
 some y8
theorem s30 : ∀ k : Nat, ∀ {a0 : Api_Mod} {a1 : Api_Mod} {r : Bool}, F30 k a0 a1 = some r → Q 30 [(.agg (c_Api_Mod a0)), (.agg (c_Api_Mod a1))] (.bool r) := by
 intro k a0 a1 r h
 unfold F30 at h
 refine Qe.go (pf := fn30) rfl rfl (Nat.le_of_ble_eq_true rfl) (by simp [PV.clean, cleanL, clean_encSl clean_eS]) rfl rfl fun H => ?_
 refine WC.seqR <| WO.box' rfl rfl rfl rfl rfl H ?_
 intro i1 S hi1 H
 refine WO.box' rfl rfl rfl rfl rfl H ?_
 intro i2 S hi2 H
 refine us 1 rfl <| WO.nil <| WC.seqR <| us 1 rfl <| wg H 1 rfl rfl rfl rfl <| us 1 rfl <| wg H 0 rfl rfl rfl rfl <| w (.bool (a0.Kind == a1.Kind)) rfl rfl <| w (.bool (a0.Kind == a1.Kind)) rfl rfl ?_
 refine WO.split 6 (SH H [(2, (.ptr i1 0)), (3, (.ptr i2 0)), (16, (.bool ((a0.Kind == a1.Kind) && (a0.Attr == a1.Attr))))]) ?_ ?_
 revert H
 cases hc3 : (a0.Kind == a1.Kind)
 intro H
 refine us 6 rfl <| WO.nil ?_
 exact kf H
 intro H
 refine us 1 rfl <| WO.go0 rfl rfl <| wg H 1 rfl rfl rfl rfl <| us 1 rfl <| WO.go0 rfl rfl <| wg H 0 rfl rfl rfl rfl <| us 2 rfl <| WO.nil ?_
 exact kf H
 rintro σ S e ⟨hk, H, rfl⟩
 refine WO.of_known hk <| w (.bool ((a0.Kind == a1.Kind) && (a0.Attr == a1.Attr))) rfl rfl ?_
 obtain ⟨y8, hy8, hOy8⟩ := bindS h
 refine WO.split 6 (SJ [(23, (.bool y8))] [] [] [(i2, .cells (c_Api_Mod a1)), (i1, .cells (c_Api_Mod a0))] [] [] false) ?_ ?_
 replace h := hy8
 revert H
 cases hc10 : ((a0.Kind == a1.Kind) && (a0.Attr == a1.Attr))
 intro H
 replace h := iteF h hc10
 refine us 6 rfl <| WO.nil ?_
 have h := oi h; subst h
 exact kh H
 intro H
 replace h := iteT h hc10
 refine us 1 rfl <| WO.go0 rfl rfl <| wg H 1 rfl rfl rfl rfl <| us 1 rfl <| WO.go0 rfl rfl <| wg H 0 rfl rfl rfl rfl <| WO.go0 rfl rfl ?_
 obtain ⟨y9, hy9, h⟩ := bindS h
 refine cl (.bool y9) [(encSl eS a0.Values), (encSl eS a1.Values)] rfl rfl rfl (fe rfl (fe rfl rfl)) (sv (s28 _ hy9)) <| us 1 rfl <| WO.nil ?_
 have h := oi h; subst h
 exact kh H
 rintro σ S e ⟨hk, H, rfl⟩
 replace h := hOy8
 refine WO.of_known hk <| us 1 rfl <| WO.nil <| WC.ret ?_
 have h := oi h; subst h
 exact kr (.bool y8) rfl rfl rfl
def F29_30_L0 (k : Nat) (a41 : Sl Api_Mod) (a42 : Sl Api_Mod) (a43 : Int) : Nat → Int → Option (Out Bool Int)
 | 0, _ => none
 | n + 1, x44 =>
  if decide (x44 < a43) then
  Option.bind (Sl.at? a42 x44) fun y53 =>
  Option.bind (Sl.at? a41 x44) fun y55 =>
  Option.bind (F30 k y53 y55) fun y57 =>
  if !y57 then
  some (Out.ret false)
  else
  F29_30_L0 k a41 a42 a43 n (ad .i64 x44 1)
  else
  some (Out.brk x44)
def F29_30 (k : Nat) (a0 : Sl Api_Mod) (a1 : Sl Api_Mod) : Option Bool :=
 if (Sl.len a0) != (Sl.len a1) then
 some false
 else
 Option.bind (F29_30_L0 k a1 a0 (Sl.len a0) k 0) fun y61 =>
 match y61 with
 | .ret y61r => some y61r
 | .brk y61b =>
 some true
theorem l29_30_L0 {k : Nat} {a41 : Sl Api_Mod} {a42 : Sl Api_Mod} {a43 : Int} {S0 : List SObj} {R : List Nat} {K : KX}  {o : Out Bool Int}
  (hret : ∀ r : Bool, o = .ret r → EK [(6, (.bool r))] S0 R [] [] [] (K .ret))
  (hbrk : ∀ y : Int, o = .brk y → EK [] S0 R [] [] [] (K (.exit 0))) :
  ∀ {n : Nat} {x44 : Int}, F29_30_L0 k a41 a42 a43 n x44 = some o → ∀ {σ : Nat → PV} {S : List SObj}, Known [(1, (encSl e_Api_Mod a41)), (2, (.fn (.func 30) [] [])), (15, (encSl e_Api_Mod a42)), (16, (.int .i64 a43)), (17, (.int .i64 x44))] σ → Hp S0 R S [] [] [] → WC env ⟨32, S0.length⟩ (.loop pc29L0) σ S false K := by
 intro n
 induction n with
 | zero => intro _ h; cases h
 | succ n ih =>
  intro x44 h σ S  hk H
  rw [F29_30_L0] at h
  refine WC.loop <| WC.of_known hk <| WC.seqR <| us 1 rfl <| WO.nil <| WC.seq ?_
  rcases iteS h with ⟨hc60, h⟩ | ⟨hc60, h⟩
  refine WC.condT rfl hc60 <| WC.skip <| KX.seq_n <| WC.seq <| WC.block <| WC.seqR <| us 1 rfl ?_
  obtain ⟨y53, hy53, h⟩ := bindS h
  refine w (.iptr (c_Api_Mod y53) 0) rfl (nz rfl (stp_idxAddr rfl (isSl_enc _ _) rfl rfl rfl hy53 (e_Api_Mod_cells _) rfl)) <| us 1 rfl <| WO.alloc' (ti := ty66) rfl rfl rfl rfl H ?_
  intro i54 S hi54 H
  refine us 1 rfl <| wos 0 H hi54 rfl rfl rfl rfl rfl rfl rfl rfl rfl rfl ?_
  intro S H
  refine WO.nil <| WC.seqR <| us 2 rfl ?_
  obtain ⟨y55, hy55, h⟩ := bindS h
  refine w (.iptr (c_Api_Mod y55) 0) rfl (nz rfl (stp_idxAddr rfl (isSl_enc _ _) rfl rfl rfl hy55 (e_Api_Mod_cells _) rfl)) <| us 1 rfl <| WO.alloc' (ti := ty66) rfl rfl rfl rfl H ?_
  intro i56 S hi56 H
  refine wos 0 H hi56 rfl rfl rfl rfl rfl rfl rfl rfl rfl rfl ?_
  intro S H
  replace H : Hp S0 R _ [(i56, .cells (c_Api_Mod y55)), (i54, .cells (c_Api_Mod y53))] [] [] := H
  refine WO.nil <| WC.seqR <| us 1 rfl <| wg H 1 rfl rfl rfl rfl <| wg H 0 rfl rfl rfl rfl ?_
  obtain ⟨y57, hy57, h⟩ := bindS h
  refine cl (.bool y57) [(.agg (c_Api_Mod y53)), (.agg (c_Api_Mod y55))] rfl rfl rfl rfl (sv (s30 _ hy57)) <| us 1 rfl <| WO.nil ?_
  rcases iteS h with ⟨hc59, h⟩ | ⟨hc59, h⟩
  refine WC.condT rfl hc59 <| WC.seqR <| us 1 rfl <| WO.nil <| WC.ret <| KX.block_r <| KX.seq_r <| KX.seq_r ?_
  have h := oi h; subst h
  exact hret _ rfl kn (H.sub (.cons _ (.cons _ .slnil)) .slnil .slnil)
  refine WC.condF rfl hc59 <| WC.skip <| KX.block_n <| KX.seq_n <| WC.region <| us 2 rfl <| WO.nil <| KX.seq_n ?_
  exact ih h  kn (H.sub (.cons _ (.cons _ .slnil)) .slnil .slnil)
  refine WC.condF rfl hc60 <| WC.exit <| KX.seq_x <| KX.seq_x ?_
  have h := oi h; subst h
  exact hbrk _ rfl  known_nil (hs H)
theorem s29_30 : ∀ k : Nat, ∀ {a0 : Sl Api_Mod} {a1 : Sl Api_Mod} {r : Bool}, F29_30 k a0 a1 = some r → Q 29 [(encSl e_Api_Mod a0), (encSl e_Api_Mod a1), (.fn (.func 30) [] [])] (.bool r) := by
 intro k a0 a1 r h
 unfold F29_30 at h
 refine Qe.go (pf := fn29) rfl rfl (Nat.le_of_ble_eq_true rfl) (by simp [PV.clean, cleanL, clean_encSl clean_Api_Mod]) rfl rfl fun H => ?_
 refine WC.seqR <| us 1 rfl <| WO.nil <| WC.seq <| WC.seqR <| us 1 rfl <| wl rfl rfl rfl <| us 1 rfl <| wl rfl rfl rfl <| us 1 rfl <| WO.nil ?_
 rcases iteS h with ⟨hc62, h⟩ | ⟨hc62, h⟩
 refine WC.condT rfl hc62 <| WC.seqR <| us 1 rfl <| WO.nil <| WC.ret <| KX.seq_r ?_
 have h := oi h; subst h
 exact kr (.bool false) rfl rfl rfl
 refine WC.condF rfl hc62 <| WC.skip <| KX.seq_n <| WC.seq <| WC.seqR <| us 1 rfl <| wl rfl rfl rfl <| us 1 rfl <| WO.nil ?_
 obtain ⟨y61, hy61, hOy61⟩ := bindS h
 refine WC.block ?_
 refine l29_30_L0 ?_ ?_ hy61  kn (hs H)
 intro y61r he σ S  hk H; subst he; replace h := hOy61; dsimp only at h
 refine KX.of_known hk <| KX.block_r <| KX.seq_r ?_
 have h := oi h; subst h
 exact kr (.bool y61r) rfl rfl rfl
 intro y61b he σ S  hk H; subst he; replace h := hOy61; dsimp only at h
 refine KX.of_known hk <| KX.block_x <| KX.seq_n <| WC.seqR <| us 1 rfl <| WO.nil <| WC.ret ?_
 have h := oi h; subst h
 exact kr (.bool true) rfl rfl rfl
def F10 (k : Nat) (a0 : Api_Msg) (a1 : Api_Msg) : Option Bool :=
 Option.bind (F27 k a0.Filter a1.Filter) fun y3 =>
 Option.bind (if y3 then
 Option.bind (F28 k a0.Wants a1.Wants) fun y9 =>
 some y9
 else
 some false) fun y8 =>
 Option.bind (if y8 then
 Option.bind (F29_30 k a0.Mods a1.Mods) fun y16 =>
 some y16
 else
 some false) fun y15 =>
 some (((((((((y15 && (((((((a0.ID == a1.ID) && (a0.Op == a1.Op)) && (a0.Of == a1.Of)) && (a0.Version == a1.Version)) && (a0.Scope == a1.Scope)) && (a0.Size == a1.Size)) && (a0.Code == a1.Code))) && ((a0.DelOld == a1.DelOld) && (a0.HasSup == a1.HasSup))) && (a0.DN == a1.DN)) && (a0.Pass == a1.Pass)) && (a0.RDN == a1.RDN)) && (a0.Sup == a1.Sup)) && (a0.Attr == a1.Attr)) && (a0.Value == a1.Value)) && (a0.Matched == a1.Matched))
theorem s10 : ∀ k : Nat, ∀ {a0 : Api_Msg} {a1 : Api_Msg} {r : Bool}, F10 k a0 a1 = some r → Q 10 [(.agg (c_Api_Msg a0)), (.agg (c_Api_Msg a1))] (.bool r) := by
 intro k a0 a1 r h
 unfold F10 at h
 refine Qe.go (pf := fn10) rfl rfl (Nat.le_of_ble_eq_true rfl) (by simp [PV.clean, cleanL, clean_encSl clean_Api_Filter, clean_encSl clean_Api_Mod, clean_encSl clean_eS]) rfl rfl fun H => ?_
 refine WC.seqR <| WO.box' rfl rfl rfl rfl rfl H ?_
 intro i1 S hi1 H
 refine WO.box' rfl rfl rfl rfl rfl H ?_
 intro i2 S hi2 H
 refine us 1 rfl <| WO.nil <| WC.seqR <| us 1 rfl <| wg H 1 rfl rfl rfl rfl <| us 1 rfl <| wg H 0 rfl rfl rfl rfl ?_
 obtain ⟨y3, hy3, h⟩ := bindS h
 refine cl (.bool y3) [(.agg (c_Api_Filter a0.Filter)), (.agg (c_Api_Filter a1.Filter))] rfl rfl rfl rfl (sv (s27 _ hy3)) <| us 1 rfl ?_
 obtain ⟨y8, hy8, hOy8⟩ := bindS h
 refine WO.split 6 (SJ [(2, (.ptr i1 0)), (3, (.ptr i2 0)), (19, (.bool y8))] [] [] [(i2, .cells (c_Api_Msg a1)), (i1, .cells (c_Api_Msg a0))] [] [] false) ?_ ?_
 replace h := hy8
 revert H
 cases hc10 : y3
 intro H
 replace h := iteF h hc10
 refine us 6 rfl <| WO.nil ?_
 have h := oi h; subst h
 exact kh H
 intro H
 replace h := iteT h hc10
 refine us 1 rfl <| WO.go0 rfl rfl <| wg H 1 rfl rfl rfl rfl <| us 1 rfl <| WO.go0 rfl rfl <| wg H 0 rfl rfl rfl rfl <| WO.go0 rfl rfl ?_
 obtain ⟨y9, hy9, h⟩ := bindS h
 refine cl (.bool y9) [(encSl eS a0.Wants), (encSl eS a1.Wants)] rfl rfl rfl (fe rfl (fe rfl rfl)) (sv (s28 _ hy9)) <| us 1 rfl <| WO.nil ?_
 have h := oi h; subst h
 exact kh H
 rintro σ S e ⟨hk, H, rfl⟩
 replace h := hOy8
 refine WO.of_known hk <| us 1 rfl ?_
 obtain ⟨y15, hy15, hOy15⟩ := bindS h
 refine WO.split 6 (SJ [(2, (.ptr i1 0)), (3, (.ptr i2 0)), (26, (.bool y15))] [] [] [(i2, .cells (c_Api_Msg a1)), (i1, .cells (c_Api_Msg a0))] [] [] false) ?_ ?_
 replace h := hy15
 revert H
 cases hc17 : y8
 intro H
 replace h := iteF h hc17
 refine us 6 rfl <| WO.nil ?_
 have h := oi h; subst h
 exact kh H
 intro H
 replace h := iteT h hc17
 refine us 1 rfl <| WO.go0 rfl rfl <| wg H 1 rfl rfl rfl rfl <| us 1 rfl <| WO.go0 rfl rfl <| wg H 0 rfl rfl rfl rfl <| WO.go0 rfl rfl ?_
 obtain ⟨y16, hy16, h⟩ := bindS h
 refine cl (.bool y16) [(encSl e_Api_Mod a0.Mods), (encSl e_Api_Mod a1.Mods), (.fn (.func 30) [] [])] rfl rfl rfl (fe rfl (fe rfl (fo rfl rfl))) (sv (s29_30 _ hy16)) <| us 1 rfl <| WO.nil ?_
 have h := oi h; subst h
 exact kh H
 rintro σ S e ⟨hk, H, rfl⟩
 replace h := hOy15
 refine WO.of_known hk <| us 1 rfl <| WO.nil <| WC.seqR <| us 1 rfl <| wg H 1 rfl rfl rfl rfl <| us 1 rfl <| wg H 0 rfl rfl rfl rfl <| w (.bool (a0.ID == a1.ID)) rfl rfl <| w (.bool (a0.ID == a1.ID)) rfl rfl ?_
 refine WO.split 6 (SH H [(2, (.ptr i1 0)), (3, (.ptr i2 0)), (5, (.bool y15)), (38, (.bool ((a0.ID == a1.ID) && (a0.Op == a1.Op))))]) ?_ ?_
 revert H
 cases hc18 : (a0.ID == a1.ID)
 intro H
 refine us 6 rfl <| WO.nil ?_
 exact kf H
 intro H
 refine us 1 rfl <| WO.go0 rfl rfl <| wg H 1 rfl rfl rfl rfl <| us 1 rfl <| WO.go0 rfl rfl <| wg H 0 rfl rfl rfl rfl <| us 2 rfl <| WO.nil ?_
 exact kf H
 rintro σ S e ⟨hk, H, rfl⟩
 refine WO.of_known hk <| w (.bool ((a0.ID == a1.ID) && (a0.Op == a1.Op))) rfl rfl ?_
 refine WO.split 6 (SH H [(2, (.ptr i1 0)), (3, (.ptr i2 0)), (5, (.bool y15)), (45, (.bool (((a0.ID == a1.ID) && (a0.Op == a1.Op)) && (a0.Of == a1.Of))))]) ?_ ?_
 revert H
 cases hc19 : ((a0.ID == a1.ID) && (a0.Op == a1.Op))
 intro H
 refine us 6 rfl <| WO.nil ?_
 exact kf H
 intro H
 refine us 1 rfl <| WO.go0 rfl rfl <| wg H 1 rfl rfl rfl rfl <| us 1 rfl <| WO.go0 rfl rfl <| wg H 0 rfl rfl rfl rfl <| us 2 rfl <| WO.nil ?_
 exact kf H
 rintro σ S e ⟨hk, H, rfl⟩
 refine WO.of_known hk <| w (.bool (((a0.ID == a1.ID) && (a0.Op == a1.Op)) && (a0.Of == a1.Of))) rfl rfl ?_
 refine WO.split 6 (SH H [(2, (.ptr i1 0)), (3, (.ptr i2 0)), (5, (.bool y15)), (52, (.bool ((((a0.ID == a1.ID) && (a0.Op == a1.Op)) && (a0.Of == a1.Of)) && (a0.Version == a1.Version))))]) ?_ ?_
 revert H
 cases hc20 : (((a0.ID == a1.ID) && (a0.Op == a1.Op)) && (a0.Of == a1.Of))
 intro H
 refine us 6 rfl <| WO.nil ?_
 exact kf H
 intro H
 refine us 1 rfl <| WO.go0 rfl rfl <| wg H 1 rfl rfl rfl rfl <| us 1 rfl <| WO.go0 rfl rfl <| wg H 0 rfl rfl rfl rfl <| us 2 rfl <| WO.nil ?_
 exact kf H
 rintro σ S e ⟨hk, H, rfl⟩
 refine WO.of_known hk <| w (.bool ((((a0.ID == a1.ID) && (a0.Op == a1.Op)) && (a0.Of == a1.Of)) && (a0.Version == a1.Version))) rfl rfl ?_
 refine WO.split 6 (SH H [(2, (.ptr i1 0)), (3, (.ptr i2 0)), (5, (.bool y15)), (59, (.bool (((((a0.ID == a1.ID) && (a0.Op == a1.Op)) && (a0.Of == a1.Of)) && (a0.Version == a1.Version)) && (a0.Scope == a1.Scope))))]) ?_ ?_
 revert H
 cases hc21 : ((((a0.ID == a1.ID) && (a0.Op == a1.Op)) && (a0.Of == a1.Of)) && (a0.Version == a1.Version))
 intro H
 refine us 6 rfl <| WO.nil ?_
 exact kf H
 intro H
 refine us 1 rfl <| WO.go0 rfl rfl <| wg H 1 rfl rfl rfl rfl <| us 1 rfl <| WO.go0 rfl rfl <| wg H 0 rfl rfl rfl rfl <| us 2 rfl <| WO.nil ?_
 exact kf H
 rintro σ S e ⟨hk, H, rfl⟩
 refine WO.of_known hk <| w (.bool (((((a0.ID == a1.ID) && (a0.Op == a1.Op)) && (a0.Of == a1.Of)) && (a0.Version == a1.Version)) && (a0.Scope == a1.Scope))) rfl rfl ?_
 refine WO.split 6 (SH H [(2, (.ptr i1 0)), (3, (.ptr i2 0)), (5, (.bool y15)), (66, (.bool ((((((a0.ID == a1.ID) && (a0.Op == a1.Op)) && (a0.Of == a1.Of)) && (a0.Version == a1.Version)) && (a0.Scope == a1.Scope)) && (a0.Size == a1.Size))))]) ?_ ?_
 revert H
 cases hc22 : (((((a0.ID == a1.ID) && (a0.Op == a1.Op)) && (a0.Of == a1.Of)) && (a0.Version == a1.Version)) && (a0.Scope == a1.Scope))
 intro H
 refine us 6 rfl <| WO.nil ?_
 exact kf H
 intro H
 refine us 1 rfl <| WO.go0 rfl rfl <| wg H 1 rfl rfl rfl rfl <| us 1 rfl <| WO.go0 rfl rfl <| wg H 0 rfl rfl rfl rfl <| us 2 rfl <| WO.nil ?_
 exact kf H
 rintro σ S e ⟨hk, H, rfl⟩
 refine WO.of_known hk <| w (.bool ((((((a0.ID == a1.ID) && (a0.Op == a1.Op)) && (a0.Of == a1.Of)) && (a0.Version == a1.Version)) && (a0.Scope == a1.Scope)) && (a0.Size == a1.Size))) rfl rfl ?_
 refine WO.split 6 (SH H [(2, (.ptr i1 0)), (3, (.ptr i2 0)), (5, (.bool y15)), (73, (.bool (((((((a0.ID == a1.ID) && (a0.Op == a1.Op)) && (a0.Of == a1.Of)) && (a0.Version == a1.Version)) && (a0.Scope == a1.Scope)) && (a0.Size == a1.Size)) && (a0.Code == a1.Code))))]) ?_ ?_
 revert H
 cases hc23 : ((((((a0.ID == a1.ID) && (a0.Op == a1.Op)) && (a0.Of == a1.Of)) && (a0.Version == a1.Version)) && (a0.Scope == a1.Scope)) && (a0.Size == a1.Size))
 intro H
 refine us 6 rfl <| WO.nil ?_
 exact kf H
 intro H
 refine us 1 rfl <| WO.go0 rfl rfl <| wg H 1 rfl rfl rfl rfl <| us 1 rfl <| WO.go0 rfl rfl <| wg H 0 rfl rfl rfl rfl <| us 2 rfl <| WO.nil ?_
 exact kf H
 rintro σ S e ⟨hk, H, rfl⟩
 refine WO.of_known hk <| us 1 rfl <| WO.nil <| WC.seqR <| us 1 rfl <| wg H 1 rfl rfl rfl rfl <| us 1 rfl <| wg H 0 rfl rfl rfl rfl <| w (.bool (a0.DelOld == a1.DelOld)) rfl rfl <| w (.bool (a0.DelOld == a1.DelOld)) rfl rfl ?_
 refine WO.split 6 (SH H [(2, (.ptr i1 0)), (3, (.ptr i2 0)), (5, (.bool y15)), (6, (.bool (((((((a0.ID == a1.ID) && (a0.Op == a1.Op)) && (a0.Of == a1.Of)) && (a0.Version == a1.Version)) && (a0.Scope == a1.Scope)) && (a0.Size == a1.Size)) && (a0.Code == a1.Code)))), (85, (.bool ((a0.DelOld == a1.DelOld) && (a0.HasSup == a1.HasSup))))]) ?_ ?_
 revert H
 cases hc24 : (a0.DelOld == a1.DelOld)
 intro H
 refine us 6 rfl <| WO.nil ?_
 exact kf H
 intro H
 refine us 1 rfl <| WO.go0 rfl rfl <| wg H 1 rfl rfl rfl rfl <| us 1 rfl <| WO.go0 rfl rfl <| wg H 0 rfl rfl rfl rfl <| us 2 rfl <| WO.nil ?_
 exact kf H
 rintro σ S e ⟨hk, H, rfl⟩
 refine WO.of_known hk <| us 1 rfl <| WO.nil <| WC.seqR <| us 2 rfl ?_
 refine WO.split 2 (SH H [(2, (.ptr i1 0)), (3, (.ptr i2 0)), (7, (.bool ((a0.DelOld == a1.DelOld) && (a0.HasSup == a1.HasSup)))), (89, (.bool (y15 && (((((((a0.ID == a1.ID) && (a0.Op == a1.Op)) && (a0.Of == a1.Of)) && (a0.Version == a1.Version)) && (a0.Scope == a1.Scope)) && (a0.Size == a1.Size)) && (a0.Code == a1.Code)))))]) ?_ ?_
 revert H
 cases hc25 : y15
 intro H
 refine us 2 rfl <| WO.nil ?_
 exact kf H
 intro H
 refine us 2 rfl <| WO.nil ?_
 exact kf H
 rintro σ S e ⟨hk, H, rfl⟩
 refine WO.of_known hk <| w (.bool (y15 && (((((((a0.ID == a1.ID) && (a0.Op == a1.Op)) && (a0.Of == a1.Of)) && (a0.Version == a1.Version)) && (a0.Scope == a1.Scope)) && (a0.Size == a1.Size)) && (a0.Code == a1.Code)))) rfl rfl ?_
 refine WO.split 2 (SH H [(2, (.ptr i1 0)), (3, (.ptr i2 0)), (92, (.bool ((y15 && (((((((a0.ID == a1.ID) && (a0.Op == a1.Op)) && (a0.Of == a1.Of)) && (a0.Version == a1.Version)) && (a0.Scope == a1.Scope)) && (a0.Size == a1.Size)) && (a0.Code == a1.Code))) && ((a0.DelOld == a1.DelOld) && (a0.HasSup == a1.HasSup)))))]) ?_ ?_
 revert H
 cases hc26 : (y15 && (((((((a0.ID == a1.ID) && (a0.Op == a1.Op)) && (a0.Of == a1.Of)) && (a0.Version == a1.Version)) && (a0.Scope == a1.Scope)) && (a0.Size == a1.Size)) && (a0.Code == a1.Code)))
 intro H
 refine us 2 rfl <| WO.nil ?_
 exact kf H
 intro H
 refine us 2 rfl <| WO.nil ?_
 exact kf H
 rintro σ S e ⟨hk, H, rfl⟩
 refine WO.of_known hk <| w (.bool ((y15 && (((((((a0.ID == a1.ID) && (a0.Op == a1.Op)) && (a0.Of == a1.Of)) && (a0.Version == a1.Version)) && (a0.Scope == a1.Scope)) && (a0.Size == a1.Size)) && (a0.Code == a1.Code))) && ((a0.DelOld == a1.DelOld) && (a0.HasSup == a1.HasSup)))) rfl rfl ?_
 refine WO.split 6 (SH H [(2, (.ptr i1 0)), (3, (.ptr i2 0)), (99, (.bool (((y15 && (((((((a0.ID == a1.ID) && (a0.Op == a1.Op)) && (a0.Of == a1.Of)) && (a0.Version == a1.Version)) && (a0.Scope == a1.Scope)) && (a0.Size == a1.Size)) && (a0.Code == a1.Code))) && ((a0.DelOld == a1.DelOld) && (a0.HasSup == a1.HasSup))) && (a0.DN == a1.DN))))]) ?_ ?_
 revert H
 cases hc27 : ((y15 && (((((((a0.ID == a1.ID) && (a0.Op == a1.Op)) && (a0.Of == a1.Of)) && (a0.Version == a1.Version)) && (a0.Scope == a1.Scope)) && (a0.Size == a1.Size)) && (a0.Code == a1.Code))) && ((a0.DelOld == a1.DelOld) && (a0.HasSup == a1.HasSup)))
 intro H
 refine us 6 rfl <| WO.nil ?_
 exact kf H
 intro H
 refine us 1 rfl <| WO.go0 rfl rfl <| wg H 1 rfl rfl rfl rfl <| us 1 rfl <| WO.go0 rfl rfl <| wg H 0 rfl rfl rfl rfl <| us 2 rfl <| WO.nil ?_
 exact kf H
 rintro σ S e ⟨hk, H, rfl⟩
 refine WO.of_known hk <| w (.bool (((y15 && (((((((a0.ID == a1.ID) && (a0.Op == a1.Op)) && (a0.Of == a1.Of)) && (a0.Version == a1.Version)) && (a0.Scope == a1.Scope)) && (a0.Size == a1.Size)) && (a0.Code == a1.Code))) && ((a0.DelOld == a1.DelOld) && (a0.HasSup == a1.HasSup))) && (a0.DN == a1.DN))) rfl rfl ?_
 refine WO.split 6 (SH H [(2, (.ptr i1 0)), (3, (.ptr i2 0)), (106, (.bool ((((y15 && (((((((a0.ID == a1.ID) && (a0.Op == a1.Op)) && (a0.Of == a1.Of)) && (a0.Version == a1.Version)) && (a0.Scope == a1.Scope)) && (a0.Size == a1.Size)) && (a0.Code == a1.Code))) && ((a0.DelOld == a1.DelOld) && (a0.HasSup == a1.HasSup))) && (a0.DN == a1.DN)) && (a0.Pass == a1.Pass))))]) ?_ ?_
 revert H
 cases hc28 : (((y15 && (((((((a0.ID == a1.ID) && (a0.Op == a1.Op)) && (a0.Of == a1.Of)) && (a0.Version == a1.Version)) && (a0.Scope == a1.Scope)) && (a0.Size == a1.Size)) && (a0.Code == a1.Code))) && ((a0.DelOld == a1.DelOld) && (a0.HasSup == a1.HasSup))) && (a0.DN == a1.DN))
 intro H
 refine us 6 rfl <| WO.nil ?_
 exact kf H
 intro H
 refine us 1 rfl <| WO.go0 rfl rfl <| wg H 1 rfl rfl rfl rfl <| us 1 rfl <| WO.go0 rfl rfl <| wg H 0 rfl rfl rfl rfl <| us 2 rfl <| WO.nil ?_
 exact kf H
 rintro σ S e ⟨hk, H, rfl⟩
 refine WO.of_known hk <| w (.bool ((((y15 && (((((((a0.ID == a1.ID) && (a0.Op == a1.Op)) && (a0.Of == a1.Of)) && (a0.Version == a1.Version)) && (a0.Scope == a1.Scope)) && (a0.Size == a1.Size)) && (a0.Code == a1.Code))) && ((a0.DelOld == a1.DelOld) && (a0.HasSup == a1.HasSup))) && (a0.DN == a1.DN)) && (a0.Pass == a1.Pass))) rfl rfl ?_
 refine WO.split 6 (SH H [(2, (.ptr i1 0)), (3, (.ptr i2 0)), (113, (.bool (((((y15 && (((((((a0.ID == a1.ID) && (a0.Op == a1.Op)) && (a0.Of == a1.Of)) && (a0.Version == a1.Version)) && (a0.Scope == a1.Scope)) && (a0.Size == a1.Size)) && (a0.Code == a1.Code))) && ((a0.DelOld == a1.DelOld) && (a0.HasSup == a1.HasSup))) && (a0.DN == a1.DN)) && (a0.Pass == a1.Pass)) && (a0.RDN == a1.RDN))))]) ?_ ?_
 revert H
 cases hc29 : ((((y15 && (((((((a0.ID == a1.ID) && (a0.Op == a1.Op)) && (a0.Of == a1.Of)) && (a0.Version == a1.Version)) && (a0.Scope == a1.Scope)) && (a0.Size == a1.Size)) && (a0.Code == a1.Code))) && ((a0.DelOld == a1.DelOld) && (a0.HasSup == a1.HasSup))) && (a0.DN == a1.DN)) && (a0.Pass == a1.Pass))
 intro H
 refine us 6 rfl <| WO.nil ?_
 exact kf H
 intro H
 refine us 1 rfl <| WO.go0 rfl rfl <| wg H 1 rfl rfl rfl rfl <| us 1 rfl <| WO.go0 rfl rfl <| wg H 0 rfl rfl rfl rfl <| us 2 rfl <| WO.nil ?_
 exact kf H
 rintro σ S e ⟨hk, H, rfl⟩
 refine WO.of_known hk <| w (.bool (((((y15 && (((((((a0.ID == a1.ID) && (a0.Op == a1.Op)) && (a0.Of == a1.Of)) && (a0.Version == a1.Version)) && (a0.Scope == a1.Scope)) && (a0.Size == a1.Size)) && (a0.Code == a1.Code))) && ((a0.DelOld == a1.DelOld) && (a0.HasSup == a1.HasSup))) && (a0.DN == a1.DN)) && (a0.Pass == a1.Pass)) && (a0.RDN == a1.RDN))) rfl rfl ?_
 refine WO.split 6 (SH H [(2, (.ptr i1 0)), (3, (.ptr i2 0)), (120, (.bool ((((((y15 && (((((((a0.ID == a1.ID) && (a0.Op == a1.Op)) && (a0.Of == a1.Of)) && (a0.Version == a1.Version)) && (a0.Scope == a1.Scope)) && (a0.Size == a1.Size)) && (a0.Code == a1.Code))) && ((a0.DelOld == a1.DelOld) && (a0.HasSup == a1.HasSup))) && (a0.DN == a1.DN)) && (a0.Pass == a1.Pass)) && (a0.RDN == a1.RDN)) && (a0.Sup == a1.Sup))))]) ?_ ?_
 revert H
 cases hc30 : (((((y15 && (((((((a0.ID == a1.ID) && (a0.Op == a1.Op)) && (a0.Of == a1.Of)) && (a0.Version == a1.Version)) && (a0.Scope == a1.Scope)) && (a0.Size == a1.Size)) && (a0.Code == a1.Code))) && ((a0.DelOld == a1.DelOld) && (a0.HasSup == a1.HasSup))) && (a0.DN == a1.DN)) && (a0.Pass == a1.Pass)) && (a0.RDN == a1.RDN))
 intro H
 refine us 6 rfl <| WO.nil ?_
 exact kf H
 intro H
 refine us 1 rfl <| WO.go0 rfl rfl <| wg H 1 rfl rfl rfl rfl <| us 1 rfl <| WO.go0 rfl rfl <| wg H 0 rfl rfl rfl rfl <| us 2 rfl <| WO.nil ?_
 exact kf H
 rintro σ S e ⟨hk, H, rfl⟩
 refine WO.of_known hk <| w (.bool ((((((y15 && (((((((a0.ID == a1.ID) && (a0.Op == a1.Op)) && (a0.Of == a1.Of)) && (a0.Version == a1.Version)) && (a0.Scope == a1.Scope)) && (a0.Size == a1.Size)) && (a0.Code == a1.Code))) && ((a0.DelOld == a1.DelOld) && (a0.HasSup == a1.HasSup))) && (a0.DN == a1.DN)) && (a0.Pass == a1.Pass)) && (a0.RDN == a1.RDN)) && (a0.Sup == a1.Sup))) rfl rfl ?_
 refine WO.split 6 (SH H [(2, (.ptr i1 0)), (3, (.ptr i2 0)), (127, (.bool (((((((y15 && (((((((a0.ID == a1.ID) && (a0.Op == a1.Op)) && (a0.Of == a1.Of)) && (a0.Version == a1.Version)) && (a0.Scope == a1.Scope)) && (a0.Size == a1.Size)) && (a0.Code == a1.Code))) && ((a0.DelOld == a1.DelOld) && (a0.HasSup == a1.HasSup))) && (a0.DN == a1.DN)) && (a0.Pass == a1.Pass)) && (a0.RDN == a1.RDN)) && (a0.Sup == a1.Sup)) && (a0.Attr == a1.Attr))))]) ?_ ?_
 revert H
 cases hc31 : ((((((y15 && (((((((a0.ID == a1.ID) && (a0.Op == a1.Op)) && (a0.Of == a1.Of)) && (a0.Version == a1.Version)) && (a0.Scope == a1.Scope)) && (a0.Size == a1.Size)) && (a0.Code == a1.Code))) && ((a0.DelOld == a1.DelOld) && (a0.HasSup == a1.HasSup))) && (a0.DN == a1.DN)) && (a0.Pass == a1.Pass)) && (a0.RDN == a1.RDN)) && (a0.Sup == a1.Sup))
 intro H
 refine us 6 rfl <| WO.nil ?_
 exact kf H
 intro H
 refine us 1 rfl <| WO.go0 rfl rfl <| wg H 1 rfl rfl rfl rfl <| us 1 rfl <| WO.go0 rfl rfl <| wg H 0 rfl rfl rfl rfl <| us 2 rfl <| WO.nil ?_
 exact kf H
 rintro σ S e ⟨hk, H, rfl⟩
 refine WO.of_known hk <| w (.bool (((((((y15 && (((((((a0.ID == a1.ID) && (a0.Op == a1.Op)) && (a0.Of == a1.Of)) && (a0.Version == a1.Version)) && (a0.Scope == a1.Scope)) && (a0.Size == a1.Size)) && (a0.Code == a1.Code))) && ((a0.DelOld == a1.DelOld) && (a0.HasSup == a1.HasSup))) && (a0.DN == a1.DN)) && (a0.Pass == a1.Pass)) && (a0.RDN == a1.RDN)) && (a0.Sup == a1.Sup)) && (a0.Attr == a1.Attr))) rfl rfl ?_
 refine WO.split 6 (SH H [(2, (.ptr i1 0)), (3, (.ptr i2 0)), (134, (.bool ((((((((y15 && (((((((a0.ID == a1.ID) && (a0.Op == a1.Op)) && (a0.Of == a1.Of)) && (a0.Version == a1.Version)) && (a0.Scope == a1.Scope)) && (a0.Size == a1.Size)) && (a0.Code == a1.Code))) && ((a0.DelOld == a1.DelOld) && (a0.HasSup == a1.HasSup))) && (a0.DN == a1.DN)) && (a0.Pass == a1.Pass)) && (a0.RDN == a1.RDN)) && (a0.Sup == a1.Sup)) && (a0.Attr == a1.Attr)) && (a0.Value == a1.Value))))]) ?_ ?_
 revert H
 cases hc32 : (((((((y15 && (((((((a0.ID == a1.ID) && (a0.Op == a1.Op)) && (a0.Of == a1.Of)) && (a0.Version == a1.Version)) && (a0.Scope == a1.Scope)) && (a0.Size == a1.Size)) && (a0.Code == a1.Code))) && ((a0.DelOld == a1.DelOld) && (a0.HasSup == a1.HasSup))) && (a0.DN == a1.DN)) && (a0.Pass == a1.Pass)) && (a0.RDN == a1.RDN)) && (a0.Sup == a1.Sup)) && (a0.Attr == a1.Attr))
 intro H
 refine us 6 rfl <| WO.nil ?_
 exact kf H
 intro H
 refine us 1 rfl <| WO.go0 rfl rfl <| wg H 1 rfl rfl rfl rfl <| us 1 rfl <| WO.go0 rfl rfl <| wg H 0 rfl rfl rfl rfl <| us 2 rfl <| WO.nil ?_
 exact kf H
 rintro σ S e ⟨hk, H, rfl⟩
 refine WO.of_known hk <| w (.bool ((((((((y15 && (((((((a0.ID == a1.ID) && (a0.Op == a1.Op)) && (a0.Of == a1.Of)) && (a0.Version == a1.Version)) && (a0.Scope == a1.Scope)) && (a0.Size == a1.Size)) && (a0.Code == a1.Code))) && ((a0.DelOld == a1.DelOld) && (a0.HasSup == a1.HasSup))) && (a0.DN == a1.DN)) && (a0.Pass == a1.Pass)) && (a0.RDN == a1.RDN)) && (a0.Sup == a1.Sup)) && (a0.Attr == a1.Attr)) && (a0.Value == a1.Value))) rfl rfl ?_
 refine WO.split 6 (SH H [(141, (.bool (((((((((y15 && (((((((a0.ID == a1.ID) && (a0.Op == a1.Op)) && (a0.Of == a1.Of)) && (a0.Version == a1.Version)) && (a0.Scope == a1.Scope)) && (a0.Size == a1.Size)) && (a0.Code == a1.Code))) && ((a0.DelOld == a1.DelOld) && (a0.HasSup == a1.HasSup))) && (a0.DN == a1.DN)) && (a0.Pass == a1.Pass)) && (a0.RDN == a1.RDN)) && (a0.Sup == a1.Sup)) && (a0.Attr == a1.Attr)) && (a0.Value == a1.Value)) && (a0.Matched == a1.Matched))))]) ?_ ?_
 revert H
 cases hc33 : ((((((((y15 && (((((((a0.ID == a1.ID) && (a0.Op == a1.Op)) && (a0.Of == a1.Of)) && (a0.Version == a1.Version)) && (a0.Scope == a1.Scope)) && (a0.Size == a1.Size)) && (a0.Code == a1.Code))) && ((a0.DelOld == a1.DelOld) && (a0.HasSup == a1.HasSup))) && (a0.DN == a1.DN)) && (a0.Pass == a1.Pass)) && (a0.RDN == a1.RDN)) && (a0.Sup == a1.Sup)) && (a0.Attr == a1.Attr)) && (a0.Value == a1.Value))
 intro H
 refine us 6 rfl <| WO.nil ?_
 exact kf H
 intro H
 refine us 1 rfl <| WO.go0 rfl rfl <| wg H 1 rfl rfl rfl rfl <| us 1 rfl <| WO.go0 rfl rfl <| wg H 0 rfl rfl rfl rfl <| us 2 rfl <| WO.nil ?_
 exact kf H
 rintro σ S e ⟨hk, H, rfl⟩
 refine WO.of_known hk <| us 1 rfl <| WO.nil <| WC.ret ?_
 have h := oi h; subst h
 exact kr (.bool (((((((((y15 && (((((((a0.ID == a1.ID) && (a0.Op == a1.Op)) && (a0.Of == a1.Of)) && (a0.Version == a1.Version)) && (a0.Scope == a1.Scope)) && (a0.Size == a1.Size)) && (a0.Code == a1.Code))) && ((a0.DelOld == a1.DelOld) && (a0.HasSup == a1.HasSup))) && (a0.DN == a1.DN)) && (a0.Pass == a1.Pass)) && (a0.RDN == a1.RDN)) && (a0.Sup == a1.Sup)) && (a0.Attr == a1.Attr)) && (a0.Value == a1.Value)) && (a0.Matched == a1.Matched))) rfl rfl rfl
def F23 (k : Nat) (a0 : Api_Msg) : Option Api_Msg :=
 Option.bind (if a0.Op == 1 then
 some (Api_Msg.mk a0.ID a0.Op 0 a0.DN a0.Version a0.Pass 0 0 (Api_Filter.mk 0 [] [] none none) none none [] false false [] [] [] 0 [])
 else
 if a0.Op == 3 then
 some (Api_Msg.mk a0.ID a0.Op 0 a0.DN 0 [] a0.Scope a0.Size a0.Filter a0.Wants none [] false false [] [] [] 0 [])
 else
 Option.bind (if a0.Op == 4 then
 some (a0.Op == 4)
 else
 Option.bind (if a0.Op == 5 then
 some (a0.Op == 5)
 else
 some (a0.Op == 10)) fun y12417 =>
 some y12417) fun y12414 =>
 if y12414 then
 some (Api_Msg.mk a0.ID a0.Op 0 a0.DN 0 [] 0 0 (Api_Filter.mk 0 [] [] none none) none a0.Mods [] false false [] [] [] 0 [])
 else
 if a0.Op == 6 then
 some (Api_Msg.mk a0.ID a0.Op 0 a0.DN 0 [] 0 0 (Api_Filter.mk 0 [] [] none none) none none [] false false [] [] [] 0 [])
 else
 if a0.Op == 7 then
 Option.bind (if a0.HasSup then
 some (Api_Msg.mk a0.ID a0.Op 0 a0.DN 0 [] 0 0 (Api_Filter.mk 0 [] [] none none) none none a0.RDN a0.DelOld a0.HasSup a0.Sup [] [] 0 [])
 else
 some (Api_Msg.mk a0.ID a0.Op 0 a0.DN 0 [] 0 0 (Api_Filter.mk 0 [] [] none none) none none a0.RDN a0.DelOld a0.HasSup [] [] [] 0 [])) fun y12428 =>
 some y12428
 else
 if a0.Op == 8 then
 some (Api_Msg.mk a0.ID a0.Op 0 a0.DN 0 [] 0 0 (Api_Filter.mk 0 [] [] none none) none none [] false false [] a0.Attr a0.Value 0 [])
 else
 if a0.Op == 9 then
 some (Api_Msg.mk a0.ID a0.Op a0.Of [] 0 [] 0 0 (Api_Filter.mk 0 [] [] none none) none none [] false false [] [] [] a0.Code a0.Matched)
 else
 some (Api_Msg.mk a0.ID a0.Op 0 [] 0 [] 0 0 (Api_Filter.mk 0 [] [] none none) none none [] false false [] [] [] 0 [])) fun y8296 =>
 some y8296
theorem s23 : ∀ k : Nat, ∀ {a0 : Api_Msg} {r : Api_Msg}, F23 k a0 = some r → Q 23 [(.agg (c_Api_Msg a0))] (.agg (c_Api_Msg r)) := by
 intro k a0 r h vs ha S
 unfold F23 at h
 refine evw_pureW (pf := fn23) rfl rfl ha (Nat.le_of_ble_eq_true rfl) (by simp [PV.clean, cleanL, clean_encSl clean_Api_Filter, clean_encSl clean_Api_Mod, clean_encSl clean_eS]) (by simp [PV.clean, cleanL, clean_encSl clean_Api_Filter, clean_encSl clean_Api_Mod, clean_encSl clean_eS]) ?_
 refine WB.of (pf := fn23) rfl ?_
 have H := Hp.start []
 refine WC.seqR <| WO.box' rfl rfl rfl rfl rfl H ?_
 intro i1 S hi1 H
 refine WO.alloc' (ti := ty31) rfl rfl rfl rfl H ?_
 intro i2 S hi2 H
 refine WO.nil <| WC.seqR <| us 1 rfl <| wg H 1 rfl rfl rfl rfl <| us 1 rfl <| wg H 1 rfl rfl rfl rfl <| w (.agg [(.int .i64 a0.ID), (.int .i64 a0.Op), (.int .i64 0), (.str []), (.int .i64 0), (.str []), (.int .i64 0), (.int .i64 0), (.int .i64 0), (.str []), (.str []), .nils, .nils, .nils, .nils, (.str []), (.bool false), (.bool false), (.str []), (.str []), (.str []), (.int .i64 0), (.str [])]) rfl (nz rfl (stp_build (ti := ty31) rfl rfl rfl rfl rfl (fill_cons rfl rfl rfl rfl (Nat.le_of_ble_eq_true rfl) rfl (fill_cons rfl rfl rfl rfl (Nat.le_of_ble_eq_true rfl) rfl rfl)))) <| WO.alloc' (ti := ty31) rfl rfl rfl rfl H ?_
 intro i3 S hi3 H
 refine wos 0 H hi3 rfl rfl rfl rfl rfl rfl rfl rfl rfl rfl ?_
 intro S H
 replace H : Hp [] [] _ [(i3, .cells [(.int .i64 a0.ID), (.int .i64 a0.Op), (.int .i64 0), (.str []), (.int .i64 0), (.str []), (.int .i64 0), (.int .i64 0), (.int .i64 0), (.str []), (.str []), .nils, .nils, .nils, .nils, (.str []), (.bool false), (.bool false), (.str []), (.str []), (.str []), (.int .i64 0), (.str [])]), (i2, .cells z0_), (i1, .cells (c_Api_Msg a0))] [] [] := H
 refine WO.nil <| WC.seq <| WC.seqR <| us 1 rfl <| wg H 2 rfl rfl rfl rfl <| WO.nil ?_
 obtain ⟨y8296, hy8296, hOy8296⟩ := bindS h
 refine WC.join (fun σ' S' e' => ∃ v8297, ∃ v8298, ∃ v8299, ∃ v8300, IsSl eS y8296.Filter.Subs v8297 ∧ IsSl e_Api_Filter y8296.Filter.Kids v8298 ∧ IsSl eS y8296.Wants v8299 ∧ IsSl e_Api_Mod y8296.Mods v8300 ∧ Known ([(2, (.ptr i2 0)), (3, (.ptr i3 0))]) σ' ∧ Hp [] [] S' [(i3, .cells [(.int .i64 y8296.ID), (.int .i64 y8296.Op), (.int .i64 y8296.Of), (.str y8296.DN), (.int .i64 y8296.Version), (.str y8296.Pass), (.int .i64 y8296.Scope), (.int .i64 y8296.Size), (.int .i64 y8296.Filter.Kind), (.str y8296.Filter.Attr), (.str y8296.Filter.Value), v8297, v8298, v8299, v8300, (.str y8296.RDN), (.bool y8296.DelOld), (.bool y8296.HasSup), (.str y8296.Sup), (.str y8296.Attr), (.str y8296.Value), (.int .i64 y8296.Code), (.str y8296.Matched)]), (i2, .cells z0_), (i1, .cells (c_Api_Msg a0))] [] [] ∧ e' = false) ?_ ?_
 replace h := hy8296
 refine WC.block <| WC.seq <| WC.block <| WC.seq <| WC.block <| WC.seq <| WC.block <| WC.seq <| WC.block <| WC.seq <| WC.block <| WC.seq <| WC.block <| WC.seq <| WC.block <| WC.seq <| WC.seq <| WC.seqR <| us 2 rfl <| WO.nil ?_
 rcases iteS h with ⟨hc12446, h⟩ | ⟨hc12446, h⟩
 refine WC.condT rfl hc12446 <| WC.exit <| KX.seq_x <| KX.seq_x <| KX.block_x <| KX.seq_n <| WC.seq <| WC.drawC <| wk (.ptr i1 4) rfl rfl rfl rfl <| wkl H 2 rfl rfl rfl rfl <| wk (.ptr i1 3) rfl rfl rfl rfl <| wkl H 2 rfl rfl rfl rfl <| wk (.ptr i1 5) rfl rfl rfl rfl <| wkl H 2 rfl rfl rfl rfl <| wk (.ptr i3 4) rfl rfl rfl rfl ?_
 have Hh12397 := H
 refine wks 0 H hi3 rfl rfl rfl rfl rfl rfl rfl rfl rfl rfl ?_
 intro S H
 refine ⟨(pend_cons (ld (H.get 2 rfl) rfl) (pend_cons (ld (H.get 2 rfl) rfl) (pend_cons (ld (H.get 2 rfl) rfl) pend_nil))), ?_⟩
 refine wk (.ptr i3 3) rfl rfl rfl rfl ?_
 have Hh12398 := H
 refine wks 0 H hi3 rfl rfl rfl rfl rfl rfl rfl rfl rfl rfl ?_
 intro S H
 refine ⟨(pend_cons (ld (H.get 2 rfl) rfl) (pend_cons (ld (H.get 2 rfl) rfl) (pend_cons (ld (H.get 2 rfl) rfl) pend_nil))), ?_⟩
 refine WK.nil <| us 1 rfl <| wos 0 H hi3 rfl rfl rfl rfl rfl rfl rfl rfl rfl rfl ?_
 intro S H
 replace H : Hp [] [] _ [(i3, .cells [(.int .i64 a0.ID), (.int .i64 a0.Op), (.int .i64 0), (.str a0.DN), (.int .i64 a0.Version), (.str a0.Pass), (.int .i64 0), (.int .i64 0), (.int .i64 0), (.str []), (.str []), .nils, .nils, .nils, .nils, (.str []), (.bool false), (.bool false), (.str []), (.str []), (.str []), (.int .i64 0), (.str [])]), (i2, .cells z0_), (i1, .cells (c_Api_Msg a0))] [] [] := H
 refine WO.nil <| KX.seq_n <| WC.exit <| KX.block_y rfl <| KX.seq_x <| KX.block_y rfl <| KX.seq_x <| KX.block_y rfl <| KX.seq_x <| KX.block_y rfl <| KX.seq_x <| KX.block_y rfl <| KX.seq_x <| KX.block_y rfl <| KX.seq_x <| KX.block_x <| KX.seq_n ?_
 have h := oi h; subst h
 exact ⟨.nils, .nils, .nils, .nils, (isSl_nil _), (isSl_nil _), (isSl_nil _), (isSl_nil _), kn, (hs H), rfl⟩
 refine WC.condF rfl hc12446 <| WC.skip <| KX.seq_n <| WC.seq <| WC.seqR <| us 2 rfl <| WO.nil ?_
 rcases iteS h with ⟨hc12445, h⟩ | ⟨hc12445, h⟩
 refine WC.condT rfl hc12445 <| WC.exit <| KX.seq_x <| KX.seq_x <| KX.block_y rfl <| KX.seq_x <| KX.block_x <| KX.seq_n <| WC.seq <| WC.drawC <| wk (.ptr i1 3) rfl rfl rfl rfl <| wkl H 2 rfl rfl rfl rfl <| wk (.ptr i1 6) rfl rfl rfl rfl <| wkl H 2 rfl rfl rfl rfl <| wk (.ptr i1 7) rfl rfl rfl rfl <| wkl H 2 rfl rfl rfl rfl <| wk (.ptr i1 8) rfl rfl rfl rfl <| wkl H 2 rfl rfl rfl rfl <| wk (.ptr i1 13) rfl rfl rfl rfl <| wkl H 2 rfl rfl rfl rfl <| wk (.ptr i3 3) rfl rfl rfl rfl ?_
 have Hh12400 := H
 refine wks 0 H hi3 rfl rfl rfl rfl rfl rfl rfl rfl rfl rfl ?_
 intro S H
 refine ⟨(pend_cons (ld (H.get 2 rfl) rfl) (pend_cons (ld (H.get 2 rfl) rfl) (pend_cons (ld (H.get 2 rfl) rfl) (pend_cons (ld (H.get 2 rfl) rfl) (pend_cons (ld (H.get 2 rfl) rfl) pend_nil))))), ?_⟩
 refine wk (.ptr i3 6) rfl rfl rfl rfl ?_
 have Hh12401 := H
 refine wks 0 H hi3 rfl rfl rfl rfl rfl rfl rfl rfl rfl rfl ?_
 intro S H
 refine ⟨(pend_cons (ld (H.get 2 rfl) rfl) (pend_cons (ld (H.get 2 rfl) rfl) (pend_cons (ld (H.get 2 rfl) rfl) (pend_cons (ld (H.get 2 rfl) rfl) (pend_cons (ld (H.get 2 rfl) rfl) pend_nil))))), ?_⟩
 refine wk (.ptr i3 7) rfl rfl rfl rfl ?_
 have Hh12402 := H
 refine wks 0 H hi3 rfl rfl rfl rfl rfl rfl rfl rfl rfl rfl ?_
 intro S H
 refine ⟨(pend_cons (ld (H.get 2 rfl) rfl) (pend_cons (ld (H.get 2 rfl) rfl) (pend_cons (ld (H.get 2 rfl) rfl) (pend_cons (ld (H.get 2 rfl) rfl) (pend_cons (ld (H.get 2 rfl) rfl) pend_nil))))), ?_⟩
 refine wk (.ptr i3 8) rfl rfl rfl rfl ?_
 have Hh12403 := H
 refine wks 0 H hi3 rfl rfl rfl rfl rfl rfl rfl rfl rfl rfl ?_
 intro S H
 refine ⟨(pend_cons (ld (H.get 2 rfl) rfl) (pend_cons (ld (H.get 2 rfl) rfl) (pend_cons (ld (H.get 2 rfl) rfl) (pend_cons (ld (H.get 2 rfl) rfl) (pend_cons (ld (H.get 2 rfl) rfl) pend_nil))))), ?_⟩
 refine WK.nil <| us 1 rfl <| WO.store 0 rfl (fe rfl rfl) H rfl rfl rfl rfl (isSl_enc _ _).one.1 (isSl_enc _ _).one.2 rfl (Nat.le_of_ble_eq_true rfl) rfl (own_e hi3) ?_
 intro S H
 replace H : Hp [] [] _ [(i3, .cells [(.int .i64 a0.ID), (.int .i64 a0.Op), (.int .i64 0), (.str a0.DN), (.int .i64 0), (.str []), (.int .i64 a0.Scope), (.int .i64 a0.Size), (.int .i64 a0.Filter.Kind), (.str a0.Filter.Attr), (.str a0.Filter.Value), (encSl eS a0.Filter.Subs), (encSl e_Api_Filter a0.Filter.Kids), (encSl eS a0.Wants), .nils, (.str []), (.bool false), (.bool false), (.str []), (.str []), (.str []), (.int .i64 0), (.str [])]), (i2, .cells z0_), (i1, .cells (c_Api_Msg a0))] [] [] := H
 refine WO.nil <| KX.seq_n <| WC.exit <| KX.block_y rfl <| KX.seq_x <| KX.block_y rfl <| KX.seq_x <| KX.block_y rfl <| KX.seq_x <| KX.block_y rfl <| KX.seq_x <| KX.block_y rfl <| KX.seq_x <| KX.block_x <| KX.seq_n ?_
 have h := oi h; subst h
 exact ⟨(encSl eS a0.Filter.Subs), (encSl e_Api_Filter a0.Filter.Kids), (encSl eS a0.Wants), .nils, (isSl_enc _ _), (isSl_enc _ _), (isSl_enc _ _), (isSl_nil _), kn, (hs H), rfl⟩
 refine WC.condF rfl hc12445 <| WC.skip <| KX.seq_n <| WC.seq <| WC.seq <| WC.seqR <| us 2 rfl <| WO.nil ?_
 obtain ⟨y12414, hy12414, hOy12414⟩ := bindS h
 refine WC.join (SJ [(1, (.ptr i1 0)), (2, (.ptr i2 0)), (3, (.ptr i3 0)), (10, (.int .i64 a0.Op)), (15, (.bool y12414))] [] [] [(i3, .cells [(.int .i64 a0.ID), (.int .i64 a0.Op), (.int .i64 0), (.str []), (.int .i64 0), (.str []), (.int .i64 0), (.int .i64 0), (.int .i64 0), (.str []), (.str []), .nils, .nils, .nils, .nils, (.str []), (.bool false), (.bool false), (.str []), (.str []), (.str []), (.int .i64 0), (.str [])]), (i2, .cells z0_), (i1, .cells (c_Api_Msg a0))] [] [] false) ?_ ?_
 replace h := hy12414
 rcases iteS h with ⟨hc12419, h⟩ | ⟨hc12419, h⟩
 refine WC.condT rfl hc12419 <| WC.skip <| KX.seq_n ?_
 have h := oi h; subst h
 exact kh H
 refine WC.condF rfl hc12419 <| WC.seqR <| us 2 rfl <| WO.nil ?_
 obtain ⟨y12417, hy12417, hOy12417⟩ := bindS h
 refine WC.join (SJ [(1, (.ptr i1 0)), (2, (.ptr i2 0)), (3, (.ptr i3 0)), (10, (.int .i64 a0.Op)), (15, (.bool y12417))] [] [] [(i3, .cells [(.int .i64 a0.ID), (.int .i64 a0.Op), (.int .i64 0), (.str []), (.int .i64 0), (.str []), (.int .i64 0), (.int .i64 0), (.int .i64 0), (.str []), (.str []), .nils, .nils, .nils, .nils, (.str []), (.bool false), (.bool false), (.str []), (.str []), (.str []), (.int .i64 0), (.str [])]), (i2, .cells z0_), (i1, .cells (c_Api_Msg a0))] [] [] false) ?_ ?_
 replace h := hy12417
 rcases iteS h with ⟨hc12418, h⟩ | ⟨hc12418, h⟩
 refine WC.condT rfl hc12418 <| WC.skip <| KX.seq_n ?_
 have h := oi h; subst h
 exact kh H
 refine WC.condF rfl hc12418 <| WC.region <| us 2 rfl <| WO.nil <| KX.seq_n ?_
 have h := oi h; subst h
 exact kh H
 rintro σ S e ⟨hk, H, rfl⟩
 replace h := hOy12417
 refine KX.of_known hk <| KX.seq_n ?_
 have h := oi h; subst h
 exact kh H
 rintro σ S e ⟨hk, H, rfl⟩
 replace h := hOy12414
 refine KX.of_known hk <| KX.seq_n ?_
 rcases iteS h with ⟨hc12444, h⟩ | ⟨hc12444, h⟩
 refine WC.condT rfl hc12444 <| WC.exit <| KX.seq_x <| KX.seq_x <| KX.block_y rfl <| KX.seq_x <| KX.block_y rfl <| KX.seq_x <| KX.block_x <| KX.seq_n <| WC.region <| us 1 rfl <| wg H 2 rfl rfl rfl rfl <| us 1 rfl <| WO.store 0 rfl (fe rfl rfl) H rfl rfl rfl rfl (isSl_enc _ _).one.1 (isSl_enc _ _).one.2 rfl (Nat.le_of_ble_eq_true rfl) rfl (own_e hi3) ?_
 intro S H
 refine WO.nil <| KX.block_n <| KX.seq_n <| WC.seqR <| us 1 rfl <| wg H 2 rfl rfl rfl rfl <| us 1 rfl <| wos 0 H hi3 rfl rfl rfl rfl rfl rfl rfl rfl rfl rfl ?_
 intro S H
 replace H : Hp [] [] _ [(i3, .cells [(.int .i64 a0.ID), (.int .i64 a0.Op), (.int .i64 0), (.str a0.DN), (.int .i64 0), (.str []), (.int .i64 0), (.int .i64 0), (.int .i64 0), (.str []), (.str []), .nils, .nils, .nils, (encSl e_Api_Mod a0.Mods), (.str []), (.bool false), (.bool false), (.str []), (.str []), (.str []), (.int .i64 0), (.str [])]), (i2, .cells z0_), (i1, .cells (c_Api_Msg a0))] [] [] := H
 refine WO.nil <| WC.exit <| KX.block_y rfl <| KX.seq_x <| KX.block_y rfl <| KX.seq_x <| KX.block_y rfl <| KX.seq_x <| KX.block_x <| KX.seq_n ?_
 have h := oi h; subst h
 exact ⟨.nils, .nils, .nils, (encSl e_Api_Mod a0.Mods), (isSl_nil _), (isSl_nil _), (isSl_nil _), (isSl_enc _ _), kn, (hs H), rfl⟩
 refine WC.condF rfl hc12444 <| WC.skip <| KX.seq_n <| WC.seq <| WC.seqR <| us 2 rfl <| WO.nil ?_
 rcases iteS h with ⟨hc12443, h⟩ | ⟨hc12443, h⟩
 refine WC.condT rfl hc12443 <| WC.exit <| KX.seq_x <| KX.seq_x <| KX.block_y rfl <| KX.seq_x <| KX.block_y rfl <| KX.seq_x <| KX.block_y rfl <| KX.seq_x <| KX.block_x <| KX.seq_n <| WC.seqR <| us 1 rfl <| wg H 2 rfl rfl rfl rfl <| us 1 rfl <| wos 0 H hi3 rfl rfl rfl rfl rfl rfl rfl rfl rfl rfl ?_
 intro S H
 replace H : Hp [] [] _ [(i3, .cells [(.int .i64 a0.ID), (.int .i64 a0.Op), (.int .i64 0), (.str a0.DN), (.int .i64 0), (.str []), (.int .i64 0), (.int .i64 0), (.int .i64 0), (.str []), (.str []), .nils, .nils, .nils, .nils, (.str []), (.bool false), (.bool false), (.str []), (.str []), (.str []), (.int .i64 0), (.str [])]), (i2, .cells z0_), (i1, .cells (c_Api_Msg a0))] [] [] := H
 refine WO.nil <| WC.exit <| KX.block_y rfl <| KX.seq_x <| KX.block_y rfl <| KX.seq_x <| KX.block_y rfl <| KX.seq_x <| KX.block_x <| KX.seq_n ?_
 have h := oi h; subst h
 exact ⟨.nils, .nils, .nils, .nils, (isSl_nil _), (isSl_nil _), (isSl_nil _), (isSl_nil _), kn, (hs H), rfl⟩
 refine WC.condF rfl hc12443 <| WC.skip <| KX.seq_n <| WC.seq <| WC.seqR <| us 2 rfl <| WO.nil ?_
 rcases iteS h with ⟨hc12442, h⟩ | ⟨hc12442, h⟩
 refine WC.condT rfl hc12442 <| WC.exit <| KX.seq_x <| KX.seq_x <| KX.block_y rfl <| KX.seq_x <| KX.block_y rfl <| KX.seq_x <| KX.block_y rfl <| KX.seq_x <| KX.block_y rfl <| KX.seq_x <| KX.block_x <| KX.seq_n <| WC.seq <| WC.seq <| WC.drawC <| wk (.ptr i1 3) rfl rfl rfl rfl <| wkl H 2 rfl rfl rfl rfl <| wk (.ptr i1 15) rfl rfl rfl rfl <| wkl H 2 rfl rfl rfl rfl <| wk (.ptr i1 16) rfl rfl rfl rfl <| wkl H 2 rfl rfl rfl rfl <| wk (.ptr i1 17) rfl rfl rfl rfl <| wkl H 2 rfl rfl rfl rfl <| wk (.ptr i3 3) rfl rfl rfl rfl ?_
 have Hh12423 := H
 refine wks 0 H hi3 rfl rfl rfl rfl rfl rfl rfl rfl rfl rfl ?_
 intro S H
 refine ⟨(pend_cons (ld (H.get 2 rfl) rfl) (pend_cons (ld (H.get 2 rfl) rfl) (pend_cons (ld (H.get 2 rfl) rfl) (pend_cons (ld (H.get 2 rfl) rfl) pend_nil)))), ?_⟩
 refine wk (.ptr i3 15) rfl rfl rfl rfl ?_
 have Hh12424 := H
 refine wks 0 H hi3 rfl rfl rfl rfl rfl rfl rfl rfl rfl rfl ?_
 intro S H
 refine ⟨(pend_cons (ld (H.get 2 rfl) rfl) (pend_cons (ld (H.get 2 rfl) rfl) (pend_cons (ld (H.get 2 rfl) rfl) (pend_cons (ld (H.get 2 rfl) rfl) pend_nil)))), ?_⟩
 refine wk (.ptr i3 16) rfl rfl rfl rfl ?_
 have Hh12425 := H
 refine wks 0 H hi3 rfl rfl rfl rfl rfl rfl rfl rfl rfl rfl ?_
 intro S H
 refine ⟨(pend_cons (ld (H.get 2 rfl) rfl) (pend_cons (ld (H.get 2 rfl) rfl) (pend_cons (ld (H.get 2 rfl) rfl) (pend_cons (ld (H.get 2 rfl) rfl) pend_nil)))), ?_⟩
 refine WK.nil <| us 1 rfl <| wos 0 H hi3 rfl rfl rfl rfl rfl rfl rfl rfl rfl rfl ?_
 intro S H
 replace H : Hp [] [] _ [(i3, .cells [(.int .i64 a0.ID), (.int .i64 a0.Op), (.int .i64 0), (.str a0.DN), (.int .i64 0), (.str []), (.int .i64 0), (.int .i64 0), (.int .i64 0), (.str []), (.str []), .nils, .nils, .nils, .nils, (.str a0.RDN), (.bool a0.DelOld), (.bool a0.HasSup), (.str []), (.str []), (.str []), (.int .i64 0), (.str [])]), (i2, .cells z0_), (i1, .cells (c_Api_Msg a0))] [] [] := H
 refine WO.nil <| KX.seq_n <| WC.seqR <| us 1 rfl <| wg H 2 rfl rfl rfl rfl <| WO.nil ?_
 obtain ⟨y12428, hy12428, hOy12428⟩ := bindS h
 refine WC.join (fun σ' S' e' => ∃ v12429, ∃ v12430, ∃ v12431, ∃ v12432, IsSl eS y12428.Filter.Subs v12429 ∧ IsSl e_Api_Filter y12428.Filter.Kids v12430 ∧ IsSl eS y12428.Wants v12431 ∧ IsSl e_Api_Mod y12428.Mods v12432 ∧ Known ([(2, (.ptr i2 0)), (3, (.ptr i3 0))]) σ' ∧ Hp [] [] S' [(i3, .cells [(.int .i64 y12428.ID), (.int .i64 y12428.Op), (.int .i64 y12428.Of), (.str y12428.DN), (.int .i64 y12428.Version), (.str y12428.Pass), (.int .i64 y12428.Scope), (.int .i64 y12428.Size), (.int .i64 y12428.Filter.Kind), (.str y12428.Filter.Attr), (.str y12428.Filter.Value), v12429, v12430, v12431, v12432, (.str y12428.RDN), (.bool y12428.DelOld), (.bool y12428.HasSup), (.str y12428.Sup), (.str y12428.Attr), (.str y12428.Value), (.int .i64 y12428.Code), (.str y12428.Matched)]), (i2, .cells z0_), (i1, .cells (c_Api_Msg a0))] [] [] ∧ e' = false) ?_ ?_
 replace h := hy12428
 rcases iteS h with ⟨hc12433, h⟩ | ⟨hc12433, h⟩
 refine WC.condT rfl hc12433 <| WC.region <| us 1 rfl <| wg H 2 rfl rfl rfl rfl <| us 1 rfl <| wos 0 H hi3 rfl rfl rfl rfl rfl rfl rfl rfl rfl rfl ?_
 intro S H
 replace H : Hp [] [] _ [(i3, .cells [(.int .i64 a0.ID), (.int .i64 a0.Op), (.int .i64 0), (.str a0.DN), (.int .i64 0), (.str []), (.int .i64 0), (.int .i64 0), (.int .i64 0), (.str []), (.str []), .nils, .nils, .nils, .nils, (.str a0.RDN), (.bool a0.DelOld), (.bool a0.HasSup), (.str a0.Sup), (.str []), (.str []), (.int .i64 0), (.str [])]), (i2, .cells z0_), (i1, .cells (c_Api_Msg a0))] [] [] := H
 refine WO.nil <| KX.seq_n ?_
 have h := oi h; subst h
 exact ⟨.nils, .nils, .nils, .nils, (isSl_nil _), (isSl_nil _), (isSl_nil _), (isSl_nil _), kn, (hs H), rfl⟩
 refine WC.condF rfl hc12433 <| WC.skip <| KX.seq_n ?_
 have h := oi h; subst h
 exact ⟨.nils, .nils, .nils, .nils, (isSl_nil _), (isSl_nil _), (isSl_nil _), (isSl_nil _), kn, (hs H), rfl⟩
 rintro σ S e ⟨v12429, v12430, v12431, v12432, hv12429, hv12430, hv12431, hv12432, hk, H, rfl⟩
 replace h := hOy12428
 refine KX.of_known hk <| KX.seq_n <| WC.exit <| KX.block_y rfl <| KX.seq_x <| KX.block_y rfl <| KX.seq_x <| KX.block_x <| KX.seq_n ?_
 have h := oi h; subst h
 exact ⟨v12429, v12430, v12431, v12432, hv12429, hv12430, hv12431, hv12432, kn, (hs H), rfl⟩
 refine WC.condF rfl hc12442 <| WC.skip <| KX.seq_n <| WC.seq <| WC.seqR <| us 2 rfl <| WO.nil ?_
 rcases iteS h with ⟨hc12441, h⟩ | ⟨hc12441, h⟩
 refine WC.condT rfl hc12441 <| WC.exit <| KX.seq_x <| KX.seq_x <| KX.block_y rfl <| KX.seq_x <| KX.block_y rfl <| KX.seq_x <| KX.block_y rfl <| KX.seq_x <| KX.block_y rfl <| KX.seq_x <| KX.block_y rfl <| KX.seq_x <| KX.block_x <| KX.seq_n <| WC.seq <| WC.drawC <| wk (.ptr i1 3) rfl rfl rfl rfl <| wkl H 2 rfl rfl rfl rfl <| wk (.ptr i1 19) rfl rfl rfl rfl <| wkl H 2 rfl rfl rfl rfl <| wk (.ptr i1 20) rfl rfl rfl rfl <| wkl H 2 rfl rfl rfl rfl <| wk (.ptr i3 3) rfl rfl rfl rfl ?_
 have Hh12435 := H
 refine wks 0 H hi3 rfl rfl rfl rfl rfl rfl rfl rfl rfl rfl ?_
 intro S H
 refine ⟨(pend_cons (ld (H.get 2 rfl) rfl) (pend_cons (ld (H.get 2 rfl) rfl) (pend_cons (ld (H.get 2 rfl) rfl) pend_nil))), ?_⟩
 refine wk (.ptr i3 19) rfl rfl rfl rfl ?_
 have Hh12436 := H
 refine wks 0 H hi3 rfl rfl rfl rfl rfl rfl rfl rfl rfl rfl ?_
 intro S H
 refine ⟨(pend_cons (ld (H.get 2 rfl) rfl) (pend_cons (ld (H.get 2 rfl) rfl) (pend_cons (ld (H.get 2 rfl) rfl) pend_nil))), ?_⟩
 refine WK.nil <| us 1 rfl <| wos 0 H hi3 rfl rfl rfl rfl rfl rfl rfl rfl rfl rfl ?_
 intro S H
 replace H : Hp [] [] _ [(i3, .cells [(.int .i64 a0.ID), (.int .i64 a0.Op), (.int .i64 0), (.str a0.DN), (.int .i64 0), (.str []), (.int .i64 0), (.int .i64 0), (.int .i64 0), (.str []), (.str []), .nils, .nils, .nils, .nils, (.str []), (.bool false), (.bool false), (.str []), (.str a0.Attr), (.str a0.Value), (.int .i64 0), (.str [])]), (i2, .cells z0_), (i1, .cells (c_Api_Msg a0))] [] [] := H
 refine WO.nil <| KX.seq_n <| WC.exit <| KX.block_y rfl <| KX.seq_x <| KX.block_x <| KX.seq_n ?_
 have h := oi h; subst h
 exact ⟨.nils, .nils, .nils, .nils, (isSl_nil _), (isSl_nil _), (isSl_nil _), (isSl_nil _), kn, (hs H), rfl⟩
 refine WC.condF rfl hc12441 <| WC.skip <| KX.seq_n <| WC.seqR <| us 2 rfl <| WO.nil ?_
 rcases iteS h with ⟨hc12440, h⟩ | ⟨hc12440, h⟩
 refine WC.condT rfl hc12440 <| WC.exit <| KX.seq_x <| KX.block_y rfl <| KX.seq_x <| KX.block_y rfl <| KX.seq_x <| KX.block_y rfl <| KX.seq_x <| KX.block_y rfl <| KX.seq_x <| KX.block_y rfl <| KX.seq_x <| KX.block_y rfl <| KX.seq_x <| KX.block_x <| KX.seq_n <| WC.seq <| WC.drawC <| wk (.ptr i1 2) rfl rfl rfl rfl <| wkl H 2 rfl rfl rfl rfl <| wk (.ptr i1 21) rfl rfl rfl rfl <| wkl H 2 rfl rfl rfl rfl <| wk (.ptr i1 22) rfl rfl rfl rfl <| wkl H 2 rfl rfl rfl rfl <| wk (.ptr i3 2) rfl rfl rfl rfl ?_
 have Hh12438 := H
 refine wks 0 H hi3 rfl rfl rfl rfl rfl rfl rfl rfl rfl rfl ?_
 intro S H
 refine ⟨(pend_cons (ld (H.get 2 rfl) rfl) (pend_cons (ld (H.get 2 rfl) rfl) (pend_cons (ld (H.get 2 rfl) rfl) pend_nil))), ?_⟩
 refine wk (.ptr i3 21) rfl rfl rfl rfl ?_
 have Hh12439 := H
 refine wks 0 H hi3 rfl rfl rfl rfl rfl rfl rfl rfl rfl rfl ?_
 intro S H
 refine ⟨(pend_cons (ld (H.get 2 rfl) rfl) (pend_cons (ld (H.get 2 rfl) rfl) (pend_cons (ld (H.get 2 rfl) rfl) pend_nil))), ?_⟩
 refine WK.nil <| us 1 rfl <| wos 0 H hi3 rfl rfl rfl rfl rfl rfl rfl rfl rfl rfl ?_
 intro S H
 replace H : Hp [] [] _ [(i3, .cells [(.int .i64 a0.ID), (.int .i64 a0.Op), (.int .i64 a0.Of), (.str []), (.int .i64 0), (.str []), (.int .i64 0), (.int .i64 0), (.int .i64 0), (.str []), (.str []), .nils, .nils, .nils, .nils, (.str []), (.bool false), (.bool false), (.str []), (.str []), (.str []), (.int .i64 a0.Code), (.str a0.Matched)]), (i2, .cells z0_), (i1, .cells (c_Api_Msg a0))] [] [] := H
 refine WO.nil <| KX.seq_n <| WC.exit <| KX.block_x <| KX.seq_n ?_
 have h := oi h; subst h
 exact ⟨.nils, .nils, .nils, .nils, (isSl_nil _), (isSl_nil _), (isSl_nil _), (isSl_nil _), kn, (hs H), rfl⟩
 refine WC.condF rfl hc12440 <| WC.skip <| KX.seq_n <| WC.exit <| KX.block_y rfl <| KX.seq_x <| KX.block_y rfl <| KX.seq_x <| KX.block_y rfl <| KX.seq_x <| KX.block_y rfl <| KX.seq_x <| KX.block_y rfl <| KX.seq_x <| KX.block_y rfl <| KX.seq_x <| KX.block_y rfl <| KX.seq_x <| KX.block_x <| KX.seq_n ?_
 have h := oi h; subst h
 exact ⟨.nils, .nils, .nils, .nils, (isSl_nil _), (isSl_nil _), (isSl_nil _), (isSl_nil _), kn, (hs H), rfl⟩
 rintro σ S e ⟨v8297, v8298, v8299, v8300, hv8297, hv8298, hv8299, hv8300, hk, H, rfl⟩
 replace h := hOy8296
 refine KX.of_known hk <| KX.seq_n <| WC.seqR <| wg H 0 rfl rfl rfl rfl <| wos 1 H hi2 rfl rfl rfl rfl rfl rfl rfl rfl rfl rfl ?_
 intro S H
 replace H : Hp [] [] _ [(i3, .cells [(.int .i64 y8296.ID), (.int .i64 y8296.Op), (.int .i64 y8296.Of), (.str y8296.DN), (.int .i64 y8296.Version), (.str y8296.Pass), (.int .i64 y8296.Scope), (.int .i64 y8296.Size), (.int .i64 y8296.Filter.Kind), (.str y8296.Filter.Attr), (.str y8296.Filter.Value), v8297, v8298, v8299, v8300, (.str y8296.RDN), (.bool y8296.DelOld), (.bool y8296.HasSup), (.str y8296.Sup), (.str y8296.Attr), (.str y8296.Value), (.int .i64 y8296.Code), (.str y8296.Matched)]), (i2, .cells [(.int .i64 y8296.ID), (.int .i64 y8296.Op), (.int .i64 y8296.Of), (.str y8296.DN), (.int .i64 y8296.Version), (.str y8296.Pass), (.int .i64 y8296.Scope), (.int .i64 y8296.Size), (.int .i64 y8296.Filter.Kind), (.str y8296.Filter.Attr), (.str y8296.Filter.Value), v8297, v8298, v8299, v8300, (.str y8296.RDN), (.bool y8296.DelOld), (.bool y8296.HasSup), (.str y8296.Sup), (.str y8296.Attr), (.str y8296.Value), (.int .i64 y8296.Code), (.str y8296.Matched)]), (i1, .cells (c_Api_Msg a0))] [] [] := H
 refine WO.nil <| WC.ret ?_
 have h := oi h; subst h
 refine KB.ret (vs := [(.agg [(.int .i64 y8296.ID), (.int .i64 y8296.Op), (.int .i64 y8296.Of), (.str y8296.DN), (.int .i64 y8296.Version), (.str y8296.Pass), (.int .i64 y8296.Scope), (.int .i64 y8296.Size), (.int .i64 y8296.Filter.Kind), (.str y8296.Filter.Attr), (.str y8296.Filter.Value), v8297, v8298, v8299, v8300, (.str y8296.RDN), (.bool y8296.DelOld), (.bool y8296.HasSup), (.str y8296.Sup), (.str y8296.Attr), (.str y8296.Value), (.int .i64 y8296.Code), (.str y8296.Matched)])]) (res_cell rfl (H.get 1 rfl) rfl res_nil) (fl_cons' rfl rfl) ?_
 exact (by simp only [st_tup, List.map_cons, List.map_nil, tupled, st_agg, st1_int, st1_str, hv8297.strip1, hv8298.strip1, hv8299.strip1, hv8300.strip1, st1_bool, e_Api_Msg, c_Api_Msg])
def F46 (k : Nat) (a0 : Str) : Option Bool :=
 some (decide ((Str.len a0) > 400))
theorem s46 : ∀ k : Nat, ∀ {a0 : Str} {r : Bool}, F46 k a0 = some r → Q 46 [(.str a0)] (.bool r) := by
 intro k a0 r h
 unfold F46 at h
 refine Qe.go (pf := fn46) rfl rfl (Nat.le_of_ble_eq_true rfl) rfl rfl rfl fun H => ?_
 refine WC.seqR <| us 1 rfl <| WO.nil <| WC.seqR <| us 4 rfl <| WO.nil <| WC.ret ?_
 have h := oi h; subst h
 exact kr (.bool (decide ((Str.len a0) > 400))) rfl rfl rfl
def F65_46_L0 (k : Nat) (a26 : Sl Str) (a27 : Int) : Nat → Int → Option (Out Int Int)
 | 0, _ => none
 | n + 1, x28 =>
  if decide (x28 < a27) then
  Option.bind (Sl.at? a26 x28) fun y34 =>
  Option.bind (F46 k y34) fun y35 =>
  if y35 then
  some (Out.ret x28)
  else
  F65_46_L0 k a26 a27 n (ad .i64 x28 1)
  else
  some (Out.brk x28)
def F65_46 (k : Nat) (a0 : Sl Str) : Option Int :=
 Option.bind (F65_46_L0 k a0 (Sl.len a0) k 0) fun y39 =>
 match y39 with
 | .ret y39r => some y39r
 | .brk y39b =>
 some (-1)
theorem l65_46_L0 {k : Nat} {a26 : Sl Str} {a27 : Int} {S0 : List SObj} {R : List Nat} {K : KX}  {o : Out Int Int}
  (hret : ∀ r : Int, o = .ret r → EK [(4, (.int .i64 r))] S0 R [] [] [] (K .ret))
  (hbrk : ∀ y : Int, o = .brk y → EK [] S0 R [] [] [] (K (.exit 0))) :
  ∀ {n : Nat} {x28 : Int}, F65_46_L0 k a26 a27 n x28 = some o → ∀ {σ : Nat → PV} {S : List SObj}, Known [(0, (encSl eS a26)), (1, (.fn (.func 46) [] [])), (7, (.int .i64 a27)), (8, (.int .i64 x28))] σ → Hp S0 R S [] [] [] → WC env ⟨19, S0.length⟩ (.loop pc65L0) σ S false K := by
 intro n
 induction n with
 | zero => intro _ h; cases h
 | succ n ih =>
  intro x28 h σ S  hk H
  rw [F65_46_L0] at h
  refine WC.loop <| WC.of_known hk <| WC.seqR <| us 1 rfl <| WO.nil <| WC.seq ?_
  rcases iteS h with ⟨hc38, h⟩ | ⟨hc38, h⟩
  refine WC.condT rfl hc38 <| WC.skip <| KX.seq_n <| WC.seq <| WC.block <| WC.seqR <| us 2 rfl <| WO.nil <| WC.seqR <| us 3 rfl ?_
  obtain ⟨y34, hy34, h⟩ := bindS h
  refine w (.iptr [(.str y34)] 0) rfl (nz rfl (stp_idxAddr rfl (isSl_enc _ _) rfl rfl rfl hy34 rfl rfl)) <| us 1 rfl ?_
  obtain ⟨y35, hy35, h⟩ := bindS h
  refine cl (.bool y35) [(.str y34)] rfl rfl rfl rfl (s46 _ hy35 rfl) <| WO.nil ?_
  rcases iteS h with ⟨hc37, h⟩ | ⟨hc37, h⟩
  refine WC.condT rfl hc37 <| WC.seqR <| us 2 rfl <| WO.nil <| WC.ret <| KX.block_r <| KX.seq_r <| KX.seq_r ?_
  have h := oi h; subst h
  exact hret _ rfl kn (hs H)
  refine WC.condF rfl hc37 <| WC.skip <| KX.block_n <| KX.seq_n <| WC.region <| us 2 rfl <| WO.nil <| KX.seq_n ?_
  exact ih h  kn (hs H)
  refine WC.condF rfl hc38 <| WC.exit <| KX.seq_x <| KX.seq_x ?_
  have h := oi h; subst h
  exact hbrk _ rfl  known_nil (hs H)
theorem s65_46 : ∀ k : Nat, ∀ {a0 : Sl Str} {r : Int}, F65_46 k a0 = some r → Q 65 [(encSl eS a0), (.fn (.func 46) [] [])] (.int .i64 r) := by
 intro k a0 r h
 unfold F65_46 at h
 refine Qe.go (pf := fn65) rfl rfl (Nat.le_of_ble_eq_true rfl) (by simp [PV.clean, cleanL, clean_encSl clean_eS]) rfl rfl fun H => ?_
 refine WC.seqR <| us 1 rfl <| WO.nil <| WC.seq <| WC.seqR <| us 1 rfl <| wl rfl rfl rfl <| us 1 rfl <| WO.nil ?_
 obtain ⟨y39, hy39, hOy39⟩ := bindS h
 refine WC.block ?_
 refine l65_46_L0 ?_ ?_ hy39  kn (hs H)
 intro y39r he σ S  hk H; subst he; replace h := hOy39; dsimp only at h
 refine KX.of_known hk <| KX.block_r <| KX.seq_r ?_
 have h := oi h; subst h
 exact kr (.int .i64 y39r) rfl rfl rfl
 intro y39b he σ S  hk H; subst he; replace h := hOy39; dsimp only at h
 refine KX.of_known hk <| KX.block_x <| KX.seq_n <| WC.seqR <| us 1 rfl <| WO.nil <| WC.ret ?_
 have h := oi h; subst h
 exact kr (.int .i64 (-1)) rfl rfl rfl
def F45_46 (k : Nat) (a0 : Sl Str) : Option Bool :=
 Option.bind (F65_46 k a0) fun y1 =>
 some (decide (y1 ≥ 0))
theorem s45_46 : ∀ k : Nat, ∀ {a0 : Sl Str} {r : Bool}, F45_46 k a0 = some r → Q 45 [(encSl eS a0), (.fn (.func 46) [] [])] (.bool r) := by
 intro k a0 r h
 unfold F45_46 at h
 refine Qe.go (pf := fn45) rfl rfl (Nat.le_of_ble_eq_true rfl) (by simp [PV.clean, cleanL, clean_encSl clean_eS]) rfl rfl fun H => ?_
 refine WC.seqR <| us 1 rfl <| WO.nil <| WC.seqR <| us 2 rfl ?_
 obtain ⟨y1, hy1, h⟩ := bindS h
 refine cl (.int .i64 y1) [(encSl eS a0), (.fn (.func 46) [] [])] rfl rfl rfl (fe rfl (fz_tmp' rfl rfl)) (sv (s65_46 _ hy1)) <| us 2 rfl <| WO.nil <| WC.ret ?_
 have h := oi h; subst h
 exact kr (.bool (decide (y1 ≥ 0))) rfl rfl rfl
def F24 (k : Nat) (a0 : Sl Str) : Option Bool :=
 Option.bind (F45_46 k a0) fun y1 =>
 some (!y1)
theorem s24 : ∀ k : Nat, ∀ {a0 : Sl Str} {r : Bool}, F24 k a0 = some r → Q 24 [(encSl eS a0)] (.bool r) := by
 intro k a0 r h
 unfold F24 at h
 refine Qe.go (pf := fn24) rfl rfl (Nat.le_of_ble_eq_true rfl) (by simp [PV.clean, cleanL, clean_encSl clean_eS]) rfl rfl fun H => ?_
 refine WC.seqR <| us 1 rfl <| WO.nil <| WC.seqR <| us 1 rfl ?_
 obtain ⟨y1, hy1, h⟩ := bindS h
 refine cl (.bool y1) [(encSl eS a0), (.fn (.func 46) [] [])] rfl rfl rfl (fe rfl (fo rfl rfl)) (sv (s45_46 _ hy1)) <| us 2 rfl <| WO.nil <| WC.ret ?_
 have h := oi h; subst h
 exact kr (.bool (!y1)) rfl rfl rfl
def F66 (k : Nat) (a0 : Int) : Option Bool :=
 some ((decide (a0 ≥ 1)) && (decide (a0 ≤ 3)))
theorem s66 : ∀ k : Nat, ∀ {a0 : Int} {r : Bool}, F66 k a0 = some r → Q 66 [(.int .i64 a0)] (.bool r) := by
 intro k a0 r h
 unfold F66 at h
 refine Qe.go (pf := fn66) rfl rfl (Nat.le_of_ble_eq_true rfl) rfl rfl rfl fun H => ?_
 refine WC.seqR <| us 1 rfl <| WO.nil <| WC.seqR <| us 1 rfl <| w (.bool (decide (a0 ≥ 1))) rfl rfl <| w (.bool (decide (a0 ≥ 1))) rfl rfl ?_
 refine WO.split 3 (SH H [(8, (.bool ((decide (a0 ≥ 1)) && (decide (a0 ≤ 3)))))]) ?_ ?_
 revert H
 cases hc1 : (decide (a0 ≥ 1))
 intro H
 refine us 3 rfl <| WO.nil ?_
 exact kf H
 intro H
 refine us 3 rfl <| WO.nil ?_
 exact kf H
 rintro σ S e ⟨hk, H, rfl⟩
 refine WO.of_known hk <| us 1 rfl <| WO.nil <| WC.ret ?_
 have h := oi h; subst h
 exact kr (.bool ((decide (a0 ≥ 1)) && (decide (a0 ≤ 3)))) rfl rfl rfl
def F47_L0 (rc0 : Api_Filter → Option Int) (k : Nat) (a26 : Api_Filter) : Nat → Int → Int → Option (Int × Int)
 | 0, _, _ => none
 | n + 1, x24, x25 =>
  Option.bind (F66 k a26.Kind) fun y27 =>
  if (y27 && (decide (x25 < (Sl.len a26.Kids)))) && (decide (x24 ≤ 20)) then
  Option.bind (Sl.at? a26.Kids x25) fun y33 =>
  Option.bind (rc0 y33) fun y34 =>
  F47_L0 rc0 k a26 n (ad .i64 x24 y34) (ad .i64 x25 1)
  else
  some (x24, x25)
def F47 : Nat → Api_Filter → Option Int
 | 0, _ => none
 | k + 1, a0 =>
  Option.bind (F47_L0 (F47 k) k a0 k 1 0) fun y36 =>
  some (imin y36.1 21)
theorem l47_L0 {rc0 : Api_Filter → Option Int} (hrc0 : ∀ {a0 : Api_Filter} {r : Int}, rc0 a0 = some r → Q 47 [(.agg (c_Api_Filter a0))] (.int .i64 r)) {k : Nat} {a26 : Api_Filter} {S0 : List SObj} {R : List Nat} {K : KX} {i1 : Nat} (hi1 : S0.length ≤ i1)  {o : (Int × Int)}
  (hbrk : EK [(3, (.int .i64 o.1))] S0 R [(i1, .cells (c_Api_Filter a26))] [] [] (K (.exit 0))) :
  ∀ {n : Nat} {x24 : Int} {x25 : Int}, F47_L0 rc0 k a26 n x24 x25 = some o → ∀ {σ : Nat → PV} {S : List SObj}, Known [(1, (.ptr i1 0)), (3, (.int .i64 x24)), (4, (.int .i64 x25))] σ → Hp S0 R S [(i1, .cells (c_Api_Filter a26))] [] [] → WC env ⟨31, S0.length⟩ (.loop pc47L0) σ S false K := by
 intro n
 induction n with
 | zero => intro _ _ h; cases h
 | succ n ih =>
  intro x24 x25 h σ S  hk H
  rw [F47_L0] at h
  refine WC.loop <| WC.of_known hk <| WC.seq <| WC.seqR <| us 1 rfl <| wg H 0 rfl rfl rfl rfl ?_
  obtain ⟨y27, hy27, h⟩ := bindS h
  refine cl (.bool y27) [(.int .i64 a26.Kind)] rfl rfl rfl rfl (s66 _ hy27 rfl) <| us 1 rfl ?_
  refine WO.split 6 (SH H [(1, (.ptr i1 0)), (3, (.int .i64 x24)), (4, (.int .i64 x25)), (14, (.bool (y27 && (decide (x25 < (Sl.len a26.Kids))))))]) ?_ ?_
  revert H
  cases hc28 : y27
  intro H
  refine us 6 rfl <| WO.nil ?_
  exact kf H
  intro H
  refine us 2 rfl <| WO.go0 rfl rfl <| wg H 0 rfl rfl rfl rfl <| WO.go0 rfl rfl <| wl rfl rfl rfl <| us 2 rfl <| WO.nil ?_
  exact kf H
  rintro σ S e ⟨hk, H, rfl⟩
  refine WO.of_known hk <| w (.bool (y27 && (decide (x25 < (Sl.len a26.Kids))))) rfl rfl ?_
  refine WO.split 3 (SH H [(1, (.ptr i1 0)), (3, (.int .i64 x24)), (4, (.int .i64 x25)), (18, (.bool ((y27 && (decide (x25 < (Sl.len a26.Kids)))) && (decide (x24 ≤ 20)))))]) ?_ ?_
  revert H
  cases hc29 : (y27 && (decide (x25 < (Sl.len a26.Kids))))
  intro H
  refine us 3 rfl <| WO.nil ?_
  exact kf H
  intro H
  refine us 3 rfl <| WO.nil ?_
  exact kf H
  rintro σ S e ⟨hk, H, rfl⟩
  refine WO.of_known hk <| WO.nil ?_
  rcases iteS h with ⟨hc35, h⟩ | ⟨hc35, h⟩
  refine WC.condT rfl hc35 <| WC.skip <| KX.seq_n <| WC.seq <| WC.block <| WC.region <| us 2 rfl <| wg H 0 rfl rfl rfl rfl <| us 1 rfl ?_
  obtain ⟨y33, hy33, h⟩ := bindS h
  refine w (.iptr (c_Api_Filter y33) 0) rfl (nz rfl (stp_idxAddr rfl (isSl_enc _ _) rfl rfl rfl hy33 (e_Api_Filter_cells _) rfl)) <| us 1 rfl ?_
  obtain ⟨y34, hy34, h⟩ := bindS h
  refine cl (.int .i64 y34) [(.agg (c_Api_Filter y33))] rfl rfl rfl rfl (sv (hrc0 hy34)) <| us 2 rfl <| WO.nil <| KX.block_n <| KX.seq_n <| WC.region <| us 3 rfl <| WO.nil <| KX.seq_n ?_
  exact ih h  kn (hs H)
  refine WC.condF rfl hc35 <| WC.exit <| KX.seq_x <| KX.seq_x ?_
  have h := oi h; subst h
  exact hbrk  kn (hs H)
theorem s47 : ∀ k : Nat, ∀ {a0 : Api_Filter} {r : Int}, F47 k a0 = some r → Q 47 [(.agg (c_Api_Filter a0))] (.int .i64 r) := by
 intro k
 induction k with
 | zero => intro _ r h; cases h
 | succ k ih =>
  intro a0 r h
  rw [F47] at h
  refine Qe.go (pf := fn47) rfl rfl (Nat.le_of_ble_eq_true rfl) (by simp [PV.clean, cleanL, clean_encSl clean_Api_Filter, clean_encSl clean_eS]) rfl rfl fun H => ?_
  refine WC.seqR <| WO.box' rfl rfl rfl rfl rfl H ?_
  intro i1 S hi1 H
  refine us 1 rfl <| WO.nil <| WC.seqR <| us 1 rfl <| WO.nil <| WC.seq <| WC.seqR <| us 1 rfl <| WO.nil ?_
  obtain ⟨y36, hy36, hOy36⟩ := bindS h
  refine WC.block ?_
  refine l47_L0 ih hi1 ?_ hy36  kn (hs H)
  intro σ S  hk H; replace h := hOy36
  refine KX.of_known hk <| KX.block_x <| KX.seq_n <| WC.seqR <| us 3 rfl <| WO.nil <| WC.ret ?_
  have h := oi h; subst h
  exact kr (.int .i64 (imin y36.1 21)) rfl rfl rfl
def F68 (k : Nat) (rc0 : Api_Filter → Option Bool) (a0 : Api_Filter) : Option Bool :=
 Option.bind (rc0 a0) fun y2 =>
 some (!y2)
theorem s68 {rc0 : Api_Filter → Option Bool} (hrc0 : ∀ {a0 : Api_Filter} {r : Bool}, rc0 a0 = some r → Q 48 [(.agg (c_Api_Filter a0))] (.bool r))  : ∀ k : Nat, ∀ {a0 : Api_Filter} {r : Bool}, F68 k rc0 a0 = some r → Q 68 [(.agg (c_Api_Filter a0))] (.bool r) := by
 intro k a0 r h
 unfold F68 at h
 refine Qe.go (pf := fn68) rfl rfl (Nat.le_of_ble_eq_true rfl) (by simp [PV.clean, cleanL, clean_encSl clean_Api_Filter, clean_encSl clean_eS]) rfl rfl fun H => ?_
 refine WC.seqR <| WO.box' rfl rfl rfl rfl rfl H ?_
 intro i1 S hi1 H
 refine us 1 rfl <| WO.nil <| WC.seqR <| wg H 0 rfl rfl rfl rfl ?_
 obtain ⟨y2, hy2, h⟩ := bindS h
 refine cl (.bool y2) [(.agg (c_Api_Filter a0))] rfl rfl rfl rfl (sv (hrc0 hy2)) <| us 2 rfl <| WO.nil <| WC.ret ?_
 have h := oi h; subst h
 exact kr (.bool (!y2)) rfl rfl rfl
def F75_68_L0 (rc0 : Api_Filter → Option Bool) (k : Nat) (a26 : Sl Api_Filter) (a27 : Int) : Nat → Int → Option (Out Int Int)
 | 0, _ => none
 | n + 1, x28 =>
  if decide (x28 < a27) then
  Option.bind (Sl.at? a26 x28) fun y34 =>
  Option.bind (F68 k rc0 y34) fun y35 =>
  if y35 then
  some (Out.ret x28)
  else
  F75_68_L0 rc0 k a26 a27 n (ad .i64 x28 1)
  else
  some (Out.brk x28)
def F75_68 (k : Nat) (rc0 : Api_Filter → Option Bool) (a0 : Sl Api_Filter) : Option Int :=
 Option.bind (F75_68_L0 rc0 k a0 (Sl.len a0) k 0) fun y39 =>
 match y39 with
 | .ret y39r => some y39r
 | .brk y39b =>
 some (-1)
theorem l75_68_L0 {rc0 : Api_Filter → Option Bool} (hrc0 : ∀ {a0 : Api_Filter} {r : Bool}, rc0 a0 = some r → Q 48 [(.agg (c_Api_Filter a0))] (.bool r)) {k : Nat} {a26 : Sl Api_Filter} {a27 : Int} {S0 : List SObj} {R : List Nat} {K : KX}  {o : Out Int Int}
  (hret : ∀ r : Int, o = .ret r → EK [(4, (.int .i64 r))] S0 R [] [] [] (K .ret))
  (hbrk : ∀ y : Int, o = .brk y → EK [] S0 R [] [] [] (K (.exit 0))) :
  ∀ {n : Nat} {x28 : Int}, F75_68_L0 rc0 k a26 a27 n x28 = some o → ∀ {σ : Nat → PV} {S : List SObj}, Known [(0, (encSl e_Api_Filter a26)), (1, (.fn (.func 68) [] [])), (7, (.int .i64 a27)), (8, (.int .i64 x28))] σ → Hp S0 R S [] [] [] → WC env ⟨19, S0.length⟩ (.loop pc75L0) σ S false K := by
 intro n
 induction n with
 | zero => intro _ h; cases h
 | succ n ih =>
  intro x28 h σ S  hk H
  rw [F75_68_L0] at h
  refine WC.loop <| WC.of_known hk <| WC.seqR <| us 1 rfl <| WO.nil <| WC.seq ?_
  rcases iteS h with ⟨hc38, h⟩ | ⟨hc38, h⟩
  refine WC.condT rfl hc38 <| WC.skip <| KX.seq_n <| WC.seq <| WC.block <| WC.seqR <| us 2 rfl <| WO.nil <| WC.seqR <| us 3 rfl ?_
  obtain ⟨y34, hy34, h⟩ := bindS h
  refine w (.iptr (c_Api_Filter y34) 0) rfl (nz rfl (stp_idxAddr rfl (isSl_enc _ _) rfl rfl rfl hy34 (e_Api_Filter_cells _) rfl)) <| us 1 rfl ?_
  obtain ⟨y35, hy35, h⟩ := bindS h
  refine cl (.bool y35) [(.agg (c_Api_Filter y34))] rfl rfl rfl rfl (sv (s68 hrc0 _ hy35)) <| WO.nil ?_
  rcases iteS h with ⟨hc37, h⟩ | ⟨hc37, h⟩
  refine WC.condT rfl hc37 <| WC.seqR <| us 2 rfl <| WO.nil <| WC.ret <| KX.block_r <| KX.seq_r <| KX.seq_r ?_
  have h := oi h; subst h
  exact hret _ rfl kn (hs H)
  refine WC.condF rfl hc37 <| WC.skip <| KX.block_n <| KX.seq_n <| WC.region <| us 2 rfl <| WO.nil <| KX.seq_n ?_
  exact ih h  kn (hs H)
  refine WC.condF rfl hc38 <| WC.exit <| KX.seq_x <| KX.seq_x ?_
  have h := oi h; subst h
  exact hbrk _ rfl  known_nil (hs H)
theorem s75_68 {rc0 : Api_Filter → Option Bool} (hrc0 : ∀ {a0 : Api_Filter} {r : Bool}, rc0 a0 = some r → Q 48 [(.agg (c_Api_Filter a0))] (.bool r))  : ∀ k : Nat, ∀ {a0 : Sl Api_Filter} {r : Int}, F75_68 k rc0 a0 = some r → Q 75 [(encSl e_Api_Filter a0), (.fn (.func 68) [] [])] (.int .i64 r) := by
 intro k a0 r h
 unfold F75_68 at h
 refine Qe.go (pf := fn75) rfl rfl (Nat.le_of_ble_eq_true rfl) (by simp [PV.clean, cleanL, clean_encSl clean_Api_Filter]) rfl rfl fun H => ?_
 refine WC.seqR <| us 1 rfl <| WO.nil <| WC.seq <| WC.seqR <| us 1 rfl <| wl rfl rfl rfl <| us 1 rfl <| WO.nil ?_
 obtain ⟨y39, hy39, hOy39⟩ := bindS h
 refine WC.block ?_
 refine l75_68_L0 hrc0 ?_ ?_ hy39  kn (hs H)
 intro y39r he σ S  hk H; subst he; replace h := hOy39; dsimp only at h
 refine KX.of_known hk <| KX.block_r <| KX.seq_r ?_
 have h := oi h; subst h
 exact kr (.int .i64 y39r) rfl rfl rfl
 intro y39b he σ S  hk H; subst he; replace h := hOy39; dsimp only at h
 refine KX.of_known hk <| KX.block_x <| KX.seq_n <| WC.seqR <| us 1 rfl <| WO.nil <| WC.ret ?_
 have h := oi h; subst h
 exact kr (.int .i64 (-1)) rfl rfl rfl
def F67_68 (k : Nat) (rc0 : Api_Filter → Option Bool) (a0 : Sl Api_Filter) : Option Bool :=
 Option.bind (F75_68 k rc0 a0) fun y1 =>
 some (decide (y1 ≥ 0))
theorem s67_68 {rc0 : Api_Filter → Option Bool} (hrc0 : ∀ {a0 : Api_Filter} {r : Bool}, rc0 a0 = some r → Q 48 [(.agg (c_Api_Filter a0))] (.bool r))  : ∀ k : Nat, ∀ {a0 : Sl Api_Filter} {r : Bool}, F67_68 k rc0 a0 = some r → Q 67 [(encSl e_Api_Filter a0), (.fn (.func 68) [] [])] (.bool r) := by
 intro k a0 r h
 unfold F67_68 at h
 refine Qe.go (pf := fn67) rfl rfl (Nat.le_of_ble_eq_true rfl) (by simp [PV.clean, cleanL, clean_encSl clean_Api_Filter]) rfl rfl fun H => ?_
 refine WC.seqR <| us 1 rfl <| WO.nil <| WC.seqR <| us 2 rfl ?_
 obtain ⟨y1, hy1, h⟩ := bindS h
 refine cl (.int .i64 y1) [(encSl e_Api_Filter a0), (.fn (.func 68) [] [])] rfl rfl rfl (fe rfl (fz_tmp' rfl rfl)) (sv (s75_68 hrc0 _ hy1)) <| us 2 rfl <| WO.nil <| WC.ret ?_
 have h := oi h; subst h
 exact kr (.bool (decide (y1 ≥ 0))) rfl rfl rfl
def F69_L0 (k : Nat) (a997 : Sl Int) (a999 : Int) : Nat → Int → Option (Out Bool Int)
 | 0, _ => none
 | n + 1, x1000 =>
  if decide (x1000 < a999) then
  Option.bind (Sl.at? a997 x1000) fun y1244 =>
  Option.bind (if (decide (y1244 ≥ 97)) && (decide (y1244 ≤ 122)) then
  some (Out.brk ())
  else
  Option.bind (if (decide (y1244 ≥ 48)) && (decide (y1244 ≤ 57)) then
  some ((decide (y1244 ≥ 48)) && (decide (y1244 ≤ 57)))
  else
  some (y1244 == 45)) fun y1481 =>
  if y1481 then
  some (Out.brk ())
  else
  some (Out.ret (Out.ret false))) fun y1405 =>
  match y1405 with
  | .ret r => some r
  | .brk y1405b =>
  F69_L0 k a997 a999 n (ad .i64 x1000 1)
  else
  some (Out.brk x1000)
def F69 (k : Nat) (a0 : Str) : Option Bool :=
 Option.bind (if (a0 == []) || (decide ((Str.len a0) > 16)) then
 some true
 else
 Option.bind (Str.at? a0 0) fun c7 =>
 some (decide (c7 < 97))) fun y6 =>
 Option.bind (if y6 then
 some true
 else
 Option.bind (Str.at? a0 0) fun c14 =>
 some (decide (c14 > 122))) fun y13 =>
 if y13 then
 some false
 else
 Option.bind (F69_L0 k (Str.bytes a0) (Sl.len (Str.bytes a0)) k 0) fun y1487 =>
 match y1487 with
 | .ret y1487r => some y1487r
 | .brk y1487b =>
 some true
theorem l69_L0 {k : Nat} {a997 : Sl Int} {a999 : Int} {S0 : List SObj} {R : List Nat} {K : KX} {v998 : PV} (hv998 : IsSl (eI .u8) a997 v998)  {o : Out Bool Int}
  (hret : ∀ r : Bool, o = .ret r → EK [(2, (.bool r))] S0 R [] [] [] (K .ret))
  (hbrk : ∀ y : Int, o = .brk y → EK [] S0 R [] [] [] (K (.exit 0))) :
  ∀ {n : Nat} {x1000 : Int}, F69_L0 k a997 a999 n x1000 = some o → ∀ {σ : Nat → PV} {S : List SObj}, Known [(23, v998), (24, (.int .i64 a999)), (25, (.int .i64 x1000))] σ → Hp S0 R S [] [] [] → WC env ⟨46, S0.length⟩ (.loop pc69L0) σ S false K := by
 intro n
 induction n with
 | zero => intro _ h; cases h
 | succ n ih =>
  intro x1000 h σ S  hk H
  rw [F69_L0] at h
  refine WC.loop <| WC.of_known hk <| WC.seqR <| us 1 rfl <| WO.nil <| WC.seq ?_
  rcases iteS h with ⟨hc1486, h⟩ | ⟨hc1486, h⟩
  refine WC.condT rfl hc1486 <| WC.skip <| KX.seq_n <| WC.seq <| WC.block <| WC.seqR ?_
  obtain ⟨y1244, hy1244, h⟩ := bindS h
  refine w (.iptr [(.int .u8 y1244)] 0) rfl (nz rfl (stp_idxAddr rfl hv998 rfl rfl rfl hy1244 rfl rfl)) <| us 2 rfl <| WO.nil ?_
  obtain ⟨y1405, hy1405, hOy1405⟩ := bindS h
  refine WC.join (fun σ' S' e' => ∃ y1405b, y1405 = .brk y1405b ∧ Known ([(23, v998), (24, (.int .i64 a999)), (25, (.int .i64 x1000))]) σ' ∧ Hp S0 R S' [] [] [] ∧ e' = false) ?_ ?_
  replace h := hy1405
  refine WC.block <| WC.seq <| WC.block <| WC.seq <| WC.block <| WC.block <| WC.seq <| WC.seq <| WC.seqR <| us 1 rfl <| w (.bool (decide (y1244 ≥ 97))) rfl rfl <| w (.bool (decide (y1244 ≥ 97))) rfl rfl ?_
  refine WO.split 3 (SH H [(4, (.int .u8 y1244)), (23, v998), (24, (.int .i64 a999)), (25, (.int .i64 x1000)), (35, (.bool ((decide (y1244 ≥ 97)) && (decide (y1244 ≤ 122)))))]) ?_ ?_
  revert H
  cases hc1476 : (decide (y1244 ≥ 97))
  intro H
  refine us 3 rfl <| WO.nil ?_
  exact kf H
  intro H
  refine us 3 rfl <| WO.nil ?_
  exact kf H
  rintro σ S e ⟨hk, H, rfl⟩
  refine WO.of_known hk <| us 1 rfl <| WO.nil ?_
  rcases iteS h with ⟨hc1485, h⟩ | ⟨hc1485, h⟩
  refine WC.condT rfl hc1485 <| WC.exit <| KX.seq_x <| KX.seq_x <| KX.block_x <| KX.block_n <| KX.seq_n <| WC.exit <| KX.block_y rfl <| KX.seq_x <| KX.block_x <| KX.seq_n ?_
  have h := oi h; subst h
  exact ⟨_, rfl, kn, (hs H), rfl⟩
  refine WC.condF rfl hc1485 <| WC.skip <| KX.seq_n <| WC.seq <| WC.seqR <| us 1 rfl <| w (.bool (decide (y1244 ≥ 48))) rfl rfl <| w (.bool (decide (y1244 ≥ 48))) rfl rfl ?_
  refine WO.split 3 (SH H [(4, (.int .u8 y1244)), (23, v998), (24, (.int .i64 a999)), (25, (.int .i64 x1000)), (42, (.bool ((decide (y1244 ≥ 48)) && (decide (y1244 ≤ 57)))))]) ?_ ?_
  revert H
  cases hc1478 : (decide (y1244 ≥ 48))
  intro H
  refine us 3 rfl <| WO.nil ?_
  exact kf H
  intro H
  refine us 3 rfl <| WO.nil ?_
  exact kf H
  rintro σ S e ⟨hk, H, rfl⟩
  refine WO.of_known hk <| us 1 rfl <| WO.nil ?_
  obtain ⟨y1481, hy1481, hOy1481⟩ := bindS h
  refine WC.join (SJ [(23, v998), (24, (.int .i64 a999)), (25, (.int .i64 x1000)), (36, (.bool y1481))] S0 R [] [] [] false) ?_ ?_
  replace h := hy1481
  rcases iteS h with ⟨hc1482, h⟩ | ⟨hc1482, h⟩
  refine WC.condT rfl hc1482 <| WC.skip <| KX.seq_n ?_
  have h := oi h; subst h
  exact kh H
  refine WC.condF rfl hc1482 <| WC.region <| us 3 rfl <| WO.nil <| KX.seq_n ?_
  have h := oi h; subst h
  exact kh H
  rintro σ S e ⟨hk, H, rfl⟩
  replace h := hOy1481
  refine KX.of_known hk <| KX.seq_n ?_
  rcases iteS h with ⟨hc1484, h⟩ | ⟨hc1484, h⟩
  refine WC.condT rfl hc1484 <| WC.exit <| KX.seq_x <| KX.block_y rfl <| KX.block_x <| KX.seq_n <| WC.exit <| KX.block_y rfl <| KX.seq_x <| KX.block_x <| KX.seq_n ?_
  have h := oi h; subst h
  exact ⟨_, rfl, kn, (hs H), rfl⟩
  refine WC.condF rfl hc1484 <| WC.skip <| KX.seq_n <| WC.exit <| KX.block_y rfl <| KX.block_y rfl <| KX.seq_x <| KX.block_x <| KX.seq_n <| WC.seq <| WC.seqR <| us 1 rfl <| WO.nil <| WC.ret <| KX.seq_r <| KX.block_r <| KX.seq_r ?_
  have h := oi h; subst h
  replace h := hOy1405
  refine KX.block_r <| KX.seq_r <| KX.seq_r ?_
  have h := oi h; subst h
  exact hret _ rfl kn (hs H)
  rintro σ S e ⟨y1405b, rfl, hk, H, rfl⟩
  replace h := hOy1405
  dsimp only at h
  refine KX.of_known hk <| KX.block_n <| KX.seq_n <| WC.region <| us 2 rfl <| WO.nil <| KX.seq_n ?_
  exact ih h  kn (hs H)
  refine WC.condF rfl hc1486 <| WC.exit <| KX.seq_x <| KX.seq_x ?_
  have h := oi h; subst h
  exact hbrk _ rfl  known_nil (hs H)
theorem s69 : ∀ k : Nat, ∀ {a0 : Str} {r : Bool}, F69 k a0 = some r → Q 69 [(.str a0)] (.bool r) := by
 intro k a0 r h
 unfold F69 at h
 refine Qe.go (pf := fn69) rfl rfl (Nat.le_of_ble_eq_true rfl) rfl rfl rfl fun H => ?_
 refine WC.seqR <| us 1 rfl <| WO.nil <| WC.seq <| WC.seqR <| us 1 rfl <| w (.bool (a0 == [])) rfl rfl <| w (.bool (a0 == [])) rfl rfl ?_
 refine WO.split 4 (SH H [(0, (.str a0)), (11, (.bool ((a0 == []) || (decide ((Str.len a0) > 16)))))]) ?_ ?_
 revert H
 cases hc1 : (a0 == [])
 intro H
 refine us 4 rfl <| WO.nil ?_
 exact kf H
 intro H
 refine us 4 rfl <| WO.nil ?_
 exact kf H
 rintro σ S e ⟨hk, H, rfl⟩
 refine WO.of_known hk <| w (.bool ((a0 == []) || (decide ((Str.len a0) > 16)))) rfl rfl ?_
 obtain ⟨y6, hy6, hOy6⟩ := bindS h
 refine WO.split 4 (SJ [(0, (.str a0)), (16, (.bool y6))] [] [] [] [] [] false) ?_ ?_
 replace h := hy6
 revert H
 cases hc8 : ((a0 == []) || (decide ((Str.len a0) > 16)))
 intro H
 replace h := iteF h hc8
 refine us 1 rfl <| WO.go0 rfl rfl ?_
 obtain ⟨c7, hc7, h⟩ := bindS h
 refine w (.int .u8 c7) rfl (nz rfl (stp_idxStr rfl rfl rfl hc7)) <| us 2 rfl <| WO.nil ?_
 have h := oi h; subst h
 exact kh H
 intro H
 replace h := iteT h hc8
 refine us 4 rfl <| WO.nil ?_
 have h := oi h; subst h
 exact kh H
 rintro σ S e ⟨hk, H, rfl⟩
 replace h := hOy6
 refine WO.of_known hk <| us 1 rfl ?_
 obtain ⟨y13, hy13, hOy13⟩ := bindS h
 refine WO.split 4 (SJ [(0, (.str a0)), (21, (.bool y13))] [] [] [] [] [] false) ?_ ?_
 replace h := hy13
 revert H
 cases hc15 : y6
 intro H
 replace h := iteF h hc15
 refine us 1 rfl <| WO.go0 rfl rfl ?_
 obtain ⟨c14, hc14, h⟩ := bindS h
 refine w (.int .u8 c14) rfl (nz rfl (stp_idxStr rfl rfl rfl hc14)) <| us 2 rfl <| WO.nil ?_
 have h := oi h; subst h
 exact kh H
 intro H
 replace h := iteT h hc15
 refine us 4 rfl <| WO.nil ?_
 have h := oi h; subst h
 exact kh H
 rintro σ S e ⟨hk, H, rfl⟩
 replace h := hOy13
 refine WO.of_known hk <| WO.nil ?_
 rcases iteS h with ⟨hc1488, h⟩ | ⟨hc1488, h⟩
 refine WC.condT rfl hc1488 <| WC.seqR <| us 1 rfl <| WO.nil <| WC.ret <| KX.seq_r ?_
 have h := oi h; subst h
 exact kr (.bool false) rfl rfl rfl
 refine WC.condF rfl hc1488 <| WC.skip <| KX.seq_n <| WC.seq <| WC.seqR <| us 1 rfl <| WO.ex rfl (nzx rfl (stp_bytes rfl rfl rfl rfl H)) ?_
 rintro v17 S ⟨hv17, H⟩
 replace H : Hp [] [] _ [] [(v17, 1)] [] := H
 refine w (.int .i64 (Sl.len (Str.bytes a0))) rfl (nz rfl (stp_len rfl hv17 rfl)) <| us 1 rfl <| WO.nil ?_
 obtain ⟨y1487, hy1487, hOy1487⟩ := bindS h
 refine WC.block ?_
 refine l69_L0 (hv17) ?_ ?_ hy1487  kn (H.sub .slnil (.cons _ .slnil) .slnil)
 intro y1487r he σ S  hk H; subst he; replace h := hOy1487; dsimp only at h
 refine KX.of_known hk <| KX.block_r <| KX.seq_r ?_
 have h := oi h; subst h
 exact kr (.bool y1487r) rfl rfl rfl
 intro y1487b he σ S  hk H; subst he; replace h := hOy1487; dsimp only at h
 refine KX.of_known hk <| KX.block_x <| KX.seq_n <| WC.seqR <| us 1 rfl <| WO.nil <| WC.ret ?_
 have h := oi h; subst h
 exact kr (.bool true) rfl rfl rfl
def F70_L0 (k : Nat) (a59 : Sl Str) (a60 : Int) : Nat → Int → Option (Out Bool Int)
 | 0, _ => none
 | n + 1, x61 =>
  if decide (x61 < a60) then
  Option.bind (Sl.at? a59 x61) fun y73 =>
  if (decide ((Str.len y73) > 60)) || (((y73 == []) && (decide (x61 > 0))) && (decide (x61 < (sb .i64 (Sl.len a59) 1)))) then
  some (Out.ret false)
  else
  F70_L0 k a59 a60 n (ad .i64 x61 1)
  else
  some (Out.brk x61)
def F70 (k : Nat) (a0 : Sl Str) : Option Bool :=
 Option.bind (if (decide ((Sl.len a0) < 2)) || (decide ((Sl.len a0) > 20)) then
 some true
 else
 Option.bind (Sl.join? a0 []) fun y7 =>
 some (y7 == [])) fun y6 =>
 if y6 then
 some false
 else
 Option.bind (F70_L0 k a0 (Sl.len a0) k 0) fun y84 =>
 match y84 with
 | .ret y84r => some y84r
 | .brk y84b =>
 some true
theorem l70_L0 {k : Nat} {a59 : Sl Str} {a60 : Int} {S0 : List SObj} {R : List Nat} {K : KX}  {o : Out Bool Int}
  (hret : ∀ r : Bool, o = .ret r → EK [(2, (.bool r))] S0 R [] [] [] (K .ret))
  (hbrk : ∀ y : Int, o = .brk y → EK [] S0 R [] [] [] (K (.exit 0))) :
  ∀ {n : Nat} {x61 : Int}, F70_L0 k a59 a60 n x61 = some o → ∀ {σ : Nat → PV} {S : List SObj}, Known [(0, (encSl eS a59)), (18, (encSl eS a59)), (19, (.int .i64 a60)), (20, (.int .i64 x61))] σ → Hp S0 R S [] [] [] → WC env ⟨44, S0.length⟩ (.loop pc70L0) σ S false K := by
 intro n
 induction n with
 | zero => intro _ h; cases h
 | succ n ih =>
  intro x61 h σ S  hk H
  rw [F70_L0] at h
  refine WC.loop <| WC.of_known hk <| WC.seqR <| us 1 rfl <| WO.nil <| WC.seq ?_
  rcases iteS h with ⟨hc83, h⟩ | ⟨hc83, h⟩
  refine WC.condT rfl hc83 <| WC.skip <| KX.seq_n <| WC.seq <| WC.block <| WC.seqR <| us 1 rfl ?_
  obtain ⟨y73, hy73, h⟩ := bindS h
  refine w (.iptr [(.str y73)] 0) rfl (nz rfl (stp_idxAddr rfl (isSl_enc _ _) rfl rfl rfl hy73 rfl rfl)) <| us 3 rfl <| WO.nil <| WC.seqR <| us 2 rfl <| w (.bool (decide ((Str.len y73) > 60))) rfl rfl <| w (.bool (decide ((Str.len y73) > 60))) rfl rfl ?_
  refine WO.split 14 (SJ [(0, (encSl eS a59)), (18, (encSl eS a59)), (19, (.int .i64 a60)), (20, (.int .i64 x61)), (42, (.bool ((decide ((Str.len y73) > 60)) || (((y73 == []) && (decide (x61 > 0))) && (decide (x61 < (sb .i64 (Sl.len a59) 1)))))))] S0 R [] [] [] false) ?_ ?_
  revert H
  cases hc78 : (decide ((Str.len y73) > 60))
  intro H
  refine us 1 rfl <| WO.go0 rfl rfl <| w (.bool (y73 == [])) rfl rfl <| WO.go0 rfl rfl <| w (.bool (y73 == [])) rfl rfl ?_
  refine WO.split 3 (SH H [(0, (encSl eS a59)), (3, (.int .i64 x61)), (18, (encSl eS a59)), (19, (.int .i64 a60)), (20, (.int .i64 x61)), (28, (.bool false)), (34, (.bool ((y73 == []) && (decide (x61 > 0)))))]) ?_ ?_
  revert H
  cases hc79 : (y73 == [])
  intro H
  refine us 3 rfl <| WO.nil ?_
  exact kf H
  intro H
  refine us 3 rfl <| WO.nil ?_
  exact kf H
  rintro σ S e ⟨hk, H, rfl⟩
  refine WO.of_known hk <| WO.go0 rfl rfl <| w (.bool ((y73 == []) && (decide (x61 > 0)))) rfl rfl ?_
  refine WO.split 6 (SH H [(0, (encSl eS a59)), (18, (encSl eS a59)), (19, (.int .i64 a60)), (20, (.int .i64 x61)), (28, (.bool false)), (41, (.bool (((y73 == []) && (decide (x61 > 0))) && (decide (x61 < (sb .i64 (Sl.len a59) 1))))))]) ?_ ?_
  revert H
  cases hc80 : ((y73 == []) && (decide (x61 > 0)))
  intro H
  refine us 6 rfl <| WO.nil ?_
  exact kf H
  intro H
  refine us 2 rfl <| WO.go0 rfl rfl <| wl rfl rfl rfl <| us 3 rfl <| WO.nil ?_
  exact kf H
  rintro σ S e ⟨hk, H, rfl⟩
  refine WO.of_known hk <| us 1 rfl <| WO.nil ?_
  exact kf H
  intro H
  refine us 3 rfl <| WO.by0 rfl rfl <| WO.by0 rfl rfl <| us 2 rfl <| WO.by0 rfl rfl <| WO.by0 rfl rfl <| WO.by0 rfl rfl <| WO.by0 rfl rfl <| WO.by0 rfl rfl <| us 2 rfl <| WO.nil ?_
  exact kf H
  rintro σ S e ⟨hk, H, rfl⟩
  refine WO.of_known hk <| WO.nil ?_
  rcases iteS h with ⟨hc82, h⟩ | ⟨hc82, h⟩
  refine WC.condT rfl hc82 <| WC.seqR <| us 1 rfl <| WO.nil <| WC.ret <| KX.block_r <| KX.seq_r <| KX.seq_r ?_
  have h := oi h; subst h
  exact hret _ rfl kn (hs H)
  refine WC.condF rfl hc82 <| WC.skip <| KX.block_n <| KX.seq_n <| WC.region <| us 2 rfl <| WO.nil <| KX.seq_n ?_
  exact ih h  kn (hs H)
  refine WC.condF rfl hc83 <| WC.exit <| KX.seq_x <| KX.seq_x ?_
  have h := oi h; subst h
  exact hbrk _ rfl  known_nil (hs H)
theorem s70 : ∀ k : Nat, ∀ {a0 : Sl Str} {r : Bool}, F70 k a0 = some r → Q 70 [(encSl eS a0)] (.bool r) := by
 intro k a0 r h
 unfold F70 at h
 refine Qe.go (pf := fn70) rfl rfl (Nat.le_of_ble_eq_true rfl) (by simp [PV.clean, cleanL, clean_encSl clean_eS]) rfl rfl fun H => ?_
 refine WC.seqR <| us 1 rfl <| WO.nil <| WC.seq <| WC.seqR <| us 1 rfl <| wl rfl rfl rfl <| w (.bool (decide ((Sl.len a0) < 2))) rfl rfl <| w (.bool (decide ((Sl.len a0) < 2))) rfl rfl ?_
 refine WO.split 4 (SH H [(0, (encSl eS a0)), (12, (.bool ((decide ((Sl.len a0) < 2)) || (decide ((Sl.len a0) > 20)))))]) ?_ ?_
 revert H
 cases hc1 : (decide ((Sl.len a0) < 2))
 intro H
 refine us 1 rfl <| WO.go0 rfl rfl <| wl rfl rfl rfl <| us 2 rfl <| WO.nil ?_
 exact kf H
 intro H
 refine us 4 rfl <| WO.nil ?_
 exact kf H
 rintro σ S e ⟨hk, H, rfl⟩
 refine WO.of_known hk <| w (.bool ((decide ((Sl.len a0) < 2)) || (decide ((Sl.len a0) > 20)))) rfl rfl ?_
 obtain ⟨y6, hy6, hOy6⟩ := bindS h
 refine WO.split 4 (SJ [(0, (encSl eS a0)), (17, (.bool y6))] [] [] [] [] [] false) ?_ ?_
 replace h := hy6
 revert H
 cases hc8 : ((decide ((Sl.len a0) < 2)) || (decide ((Sl.len a0) > 20)))
 intro H
 replace h := iteF h hc8
 refine us 1 rfl <| WO.go0 rfl rfl ?_
 obtain ⟨y7, hy7, h⟩ := bindS h
 refine w (.str y7) rfl (nz (fe rfl (fo rfl rfl)) (stp_call (vs := [(encSl eS a0), (.str [])]) rfl rfl (evw_join rfl (isSl_enc _ _) hy7 _))) <| us 2 rfl <| WO.nil ?_
 have h := oi h; subst h
 exact kh H
 intro H
 replace h := iteT h hc8
 refine us 4 rfl <| WO.nil ?_
 have h := oi h; subst h
 exact kh H
 rintro σ S e ⟨hk, H, rfl⟩
 replace h := hOy6
 refine WO.of_known hk <| WO.nil ?_
 rcases iteS h with ⟨hc85, h⟩ | ⟨hc85, h⟩
 refine WC.condT rfl hc85 <| WC.seqR <| us 1 rfl <| WO.nil <| WC.ret <| KX.seq_r ?_
 have h := oi h; subst h
 exact kr (.bool false) rfl rfl rfl
 refine WC.condF rfl hc85 <| WC.skip <| KX.seq_n <| WC.seq <| WC.seqR <| us 1 rfl <| wl rfl rfl rfl <| us 1 rfl <| WO.nil ?_
 obtain ⟨y84, hy84, hOy84⟩ := bindS h
 refine WC.block ?_
 refine l70_L0 ?_ ?_ hy84  kn (hs H)
 intro y84r he σ S  hk H; subst he; replace h := hOy84; dsimp only at h
 refine KX.of_known hk <| KX.block_r <| KX.seq_r ?_
 have h := oi h; subst h
 exact kr (.bool y84r) rfl rfl rfl
 intro y84b he σ S  hk H; subst he; replace h := hOy84; dsimp only at h
 refine KX.of_known hk <| KX.block_x <| KX.seq_n <| WC.seqR <| us 1 rfl <| WO.nil <| WC.ret ?_
 have h := oi h; subst h
 exact kr (.bool true) rfl rfl rfl
end Go.Proofs.YtbinlabnilidiaaDoor.M
