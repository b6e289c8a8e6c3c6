/- Part of the proof: the runs of functions on the abstract machine. -/
import Derived.Test.YtbinlabnilidiaaDoorPamM4
import Derived.Test.YtbinlabnilidiaaDoorFns
import Derived.Test.YtbinlabnilidiaaDoorMDe
import Derived.Test.YtbinlabnilidiaaDoorMDc
import Derived.Test.YtbinlabnilidiaaDoorMDc1
namespace Go.Proofs.YtbinlabnilidiaaDoor.M
open Go Go.Pam Go.RowKit Go.WideShapes
set_option maxRecDepth 8000
set_option linter.unusedVariables false
set_option linter.unusedSimpArgs false

def F20_L0 (rc0 : Api_Filter → Api_Filter → Option Bool) (k : Nat) (a34 : Api_Filter) (a35 : Api_Filter) : Nat → Int → Option (Out Bool Int)
 | 0, _ => none
 | n + 1, x33 =>
  if decide (x33 < (Sl.len a35.Subs)) then
  Option.bind (Sl.at? a35.Subs x33) fun y41 =>
  Option.bind (Sl.at? a34.Subs x33) fun y42 =>
  if !(y41 == y42) then
  some (Out.ret false)
  else
  F20_L0 rc0 k a34 a35 n (ad .i64 x33 1)
  else
  some (Out.brk x33)
def F20_L2 (rc0 : Api_Filter → Api_Filter → Option Bool) (k : Nat) (a77 : Api_Filter) (a78 : Api_Filter) : Nat → Int → Option (Out Bool Int)
 | 0, _ => none
 | n + 1, x76 =>
  if decide (x76 < (Sl.len a78.Kids)) then
  Option.bind (Sl.at? a78.Kids x76) fun y85 =>
  Option.bind (Sl.at? a77.Kids x76) fun y86 =>
  Option.bind (rc0 y85 y86) fun y87 =>
  if !y87 then
  some (Out.ret false)
  else
  F20_L2 rc0 k a77 a78 n (ad .i64 x76 1)
  else
  some (Out.brk x76)
def F20 : Nat → Api_Filter → Api_Filter → Option Bool
 | 0, _, _ => none
 | k + 1, a0, a1 =>
  if ((((a0.Kind != a1.Kind) || (!(a0.Attr == a1.Attr))) || (!(a0.Value == a1.Value))) || ((Sl.len a0.Subs) != (Sl.len a1.Subs))) || ((Sl.len a0.Kids) != (Sl.len a1.Kids)) then
  some false
  else
  Option.bind (F20_L0 (F20 k) k a1 a0 k 0) fun y46 =>
  match y46 with
  | .ret y46r => some y46r
  | .brk y46b =>
  Option.bind (F20_L2 (F20 k) k a1 a0 k 0) fun y91 =>
  match y91 with
  | .ret y91r => some y91r
  | .brk y91b =>
  some true
theorem l20_L0 {rc0 : Api_Filter → Api_Filter → Option Bool} (hrc0 : ∀ {a0 : Api_Filter} {a1 : Api_Filter} {r : Bool}, rc0 a0 a1 = some r → Q 20 [(.agg (c_Api_Filter a0)), (.agg (c_Api_Filter a1))] (.bool r)) {k : Nat} {a34 : Api_Filter} {a35 : Api_Filter} {S0 : List SObj} {R : List Nat} {K : KX} {i2 : Nat} {i1 : Nat} (hi2 : S0.length ≤ i2) (hi1 : S0.length ≤ i1)  {o : Out Bool Int}
  (hret : ∀ r : Bool, o = .ret r → EK [(4, (.bool r))] S0 R [] [] [] (K .ret))
  (hbrk : ∀ y : Int, o = .brk y → EK [(2, (.ptr i1 0)), (3, (.ptr i2 0))] S0 R [(i2, .cells (c_Api_Filter a34)), (i1, .cells (c_Api_Filter a35))] [] [] (K (.exit 0))) :
  ∀ {n : Nat} {x33 : Int}, F20_L0 rc0 k a34 a35 n x33 = some o → ∀ {σ : Nat → PV} {S : List SObj}, Known [(2, (.ptr i1 0)), (3, (.ptr i2 0)), (5, (.int .i64 x33))] σ → Hp S0 R S [(i2, .cells (c_Api_Filter a34)), (i1, .cells (c_Api_Filter a35))] [] [] → WC env ⟨81, S0.length⟩ (.loop pc20L0) σ S false K := by
 intro n
 induction n with
 | zero => intro _ h; cases h
 | succ n ih =>
  intro x33 h σ S  hk H
  rw [F20_L0] at h
  refine WC.loop <| WC.of_known hk <| WC.seq <| WC.seqR <| us 2 rfl <| wg H 1 rfl rfl rfl rfl <| wl rfl rfl rfl <| us 1 rfl <| WO.nil ?_
  rcases iteS h with ⟨hc45, h⟩ | ⟨hc45, h⟩
  refine WC.condT rfl hc45 <| WC.skip <| KX.seq_n <| WC.seq <| WC.block <| WC.seq <| WC.draw <| wh (.ptr i1 3) rfl rfl <| WH.step (v := (encSl eS a35.Subs)) rfl (nz rfl (stp_load rfl (H.get 1 rfl) rfl)) rfl rfl <| wh (.int .i64 x33) rfl rfl ?_
  obtain ⟨y41, hy41, h⟩ := bindS h
  refine WH.step (v := (.iptr [(.str y41)] 0)) rfl (nz rfl (stp_idxAddr rfl (isSl_enc _ _) rfl rfl rfl hy41 rfl rfl)) rfl rfl <| wh (.str y41) rfl rfl <| wh (.ptr i2 3) rfl rfl <| WH.step (v := (encSl eS a34.Subs)) rfl (nz rfl (stp_load rfl (H.get 0 rfl) rfl)) rfl rfl <| wh (.int .i64 x33) rfl rfl ?_
  obtain ⟨y42, hy42, h⟩ := bindS h
  refine WH.step (v := (.iptr [(.str y42)] 0)) rfl (nz rfl (stp_idxAddr rfl (isSl_enc _ _) rfl rfl rfl hy42 rfl rfl)) rfl rfl <| wh (.str y42) rfl rfl <| WH.nil <| us 1 rfl <| WO.nil <| KX.seq_n ?_
  rcases iteS h with ⟨hc44, h⟩ | ⟨hc44, h⟩
  refine WC.condT rfl hc44 <| WC.seqR <| us 1 rfl <| WO.nil <| WC.ret <| KX.block_r <| KX.seq_r <| KX.seq_r ?_
  have h := oi h; subst h
  exact hret _ rfl kn (H.sub (.cons _ (.cons _ .slnil)) .slnil .slnil)
  refine WC.condF rfl hc44 <| WC.skip <| KX.block_n <| KX.seq_n <| WC.region <| us 3 rfl <| WO.nil <| KX.seq_n ?_
  exact ih h  kn (hs H)
  refine WC.condF rfl hc45 <| WC.exit <| KX.seq_x <| KX.seq_x ?_
  have h := oi h; subst h
  exact hbrk _ rfl  kn (hs H)
theorem l20_L2 {rc0 : Api_Filter → Api_Filter → Option Bool} (hrc0 : ∀ {a0 : Api_Filter} {a1 : Api_Filter} {r : Bool}, rc0 a0 a1 = some r → Q 20 [(.agg (c_Api_Filter a0)), (.agg (c_Api_Filter a1))] (.bool r)) {k : Nat} {a77 : Api_Filter} {a78 : Api_Filter} {S0 : List SObj} {R : List Nat} {K : KX} {i2 : Nat} {i1 : Nat} (hi2 : S0.length ≤ i2) (hi1 : S0.length ≤ i1)  {o : Out Bool Int}
  (hret : ∀ r : Bool, o = .ret r → EK [(4, (.bool r))] S0 R [] [] [] (K .ret))
  (hbrk : ∀ y : Int, o = .brk y → EK [] S0 R [(i2, .cells (c_Api_Filter a77)), (i1, .cells (c_Api_Filter a78))] [] [] (K (.exit 2))) :
  ∀ {n : Nat} {x76 : Int}, F20_L2 rc0 k a77 a78 n x76 = some o → ∀ {σ : Nat → PV} {S : List SObj}, Known [(2, (.ptr i1 0)), (3, (.ptr i2 0)), (6, (.int .i64 x76))] σ → Hp S0 R S [(i2, .cells (c_Api_Filter a77)), (i1, .cells (c_Api_Filter a78))] [] [] → WC env ⟨81, S0.length⟩ (.loop pc20L2) σ S false K := by
 intro n
 induction n with
 | zero => intro _ h; cases h
 | succ n ih =>
  intro x76 h σ S  hk H
  rw [F20_L2] at h
  refine WC.loop <| WC.of_known hk <| WC.seq <| WC.seqR <| us 2 rfl <| wg H 1 rfl rfl rfl rfl <| wl rfl rfl rfl <| us 1 rfl <| WO.nil ?_
  rcases iteS h with ⟨hc90, h⟩ | ⟨hc90, h⟩
  refine WC.condT rfl hc90 <| WC.skip <| KX.seq_n <| WC.seq <| WC.block <| WC.seq <| WC.draw <| wh (.ptr i1 4) rfl rfl <| WH.step (v := (encSl e_Api_Filter a78.Kids)) rfl (nz rfl (stp_load rfl (H.get 1 rfl) rfl)) rfl rfl <| wh (.int .i64 x76) rfl rfl ?_
  obtain ⟨y85, hy85, h⟩ := bindS h
  refine WH.step (v := (.iptr (c_Api_Filter y85) 0)) rfl (nz rfl (stp_idxAddr rfl (isSl_enc _ _) rfl rfl rfl hy85 (e_Api_Filter_cells _) rfl)) rfl rfl <| wh (.agg (c_Api_Filter y85)) rfl rfl <| wh (.ptr i2 4) rfl rfl <| WH.step (v := (encSl e_Api_Filter a77.Kids)) rfl (nz rfl (stp_load rfl (H.get 0 rfl) rfl)) rfl rfl <| wh (.int .i64 x76) rfl rfl ?_
  obtain ⟨y86, hy86, h⟩ := bindS h
  refine WH.step (v := (.iptr (c_Api_Filter y86) 0)) rfl (nz rfl (stp_idxAddr rfl (isSl_enc _ _) rfl rfl rfl hy86 (e_Api_Filter_cells _) rfl)) rfl rfl <| wh (.agg (c_Api_Filter y86)) rfl rfl <| WH.nil ?_
  obtain ⟨y87, hy87, h⟩ := bindS h
  refine cl (.bool y87) [(.agg (c_Api_Filter y85)), (.agg (c_Api_Filter y86))] rfl rfl rfl rfl (sv (hrc0 hy87)) <| us 1 rfl <| WO.nil <| KX.seq_n ?_
  rcases iteS h with ⟨hc89, h⟩ | ⟨hc89, h⟩
  refine WC.condT rfl hc89 <| WC.seqR <| us 1 rfl <| WO.nil <| WC.ret <| KX.block_r <| KX.seq_r <| KX.seq_r ?_
  have h := oi h; subst h
  exact hret _ rfl kn (H.sub (.cons _ (.cons _ .slnil)) .slnil .slnil)
  refine WC.condF rfl hc89 <| WC.skip <| KX.block_n <| KX.seq_n <| WC.region <| us 3 rfl <| WO.nil <| KX.seq_n ?_
  exact ih h  kn (hs H)
  refine WC.condF rfl hc90 <| WC.exit <| KX.seq_x <| KX.seq_x ?_
  have h := oi h; subst h
  exact hbrk _ rfl  known_nil (hs H)
theorem s20 : ∀ k : Nat, ∀ {a0 : Api_Filter} {a1 : Api_Filter} {r : Bool}, F20 k a0 a1 = some r → Q 20 [(.agg (c_Api_Filter a0)), (.agg (c_Api_Filter a1))] (.bool r) := by
 intro k
 induction k with
 | zero => intro _ _ r h; cases h
 | succ k ih =>
  intro a0 a1 r h
  rw [F20] at h
  refine Qe.go (pf := fn20) rfl rfl (Nat.le_of_ble_eq_true rfl) (by simp [PV.clean, cleanL, clean_encSl clean_Api_Filter, clean_encSl clean_eS]) rfl rfl fun H => ?_
  refine WC.seqR <| WO.box' rfl rfl rfl rfl rfl H ?_
  intro i1 S hi1 H
  refine WO.box' rfl rfl rfl rfl rfl H ?_
  intro i2 S hi2 H
  refine us 1 rfl <| WO.nil <| WC.seq <| WC.seqR <| us 1 rfl <| wg H 1 rfl rfl rfl rfl <| us 1 rfl <| wg H 0 rfl rfl rfl rfl <| w (.bool (a0.Kind != a1.Kind)) rfl rfl <| w (.bool (a0.Kind != a1.Kind)) rfl rfl ?_
  refine WO.split 6 (SH H [(2, (.ptr i1 0)), (3, (.ptr i2 0)), (18, (.bool ((a0.Kind != a1.Kind) || (!(a0.Attr == a1.Attr)))))]) ?_ ?_
  revert H
  cases hc3 : (a0.Kind != a1.Kind)
  intro H
  refine us 1 rfl <| WO.go0 rfl rfl <| wg H 1 rfl rfl rfl rfl <| us 1 rfl <| WO.go0 rfl rfl <| wg H 0 rfl rfl rfl rfl <| us 2 rfl <| WO.nil ?_
  exact kf H
  intro H
  refine us 6 rfl <| WO.nil ?_
  exact kf H
  rintro σ S e ⟨hk, H, rfl⟩
  refine WO.of_known hk <| w (.bool ((a0.Kind != a1.Kind) || (!(a0.Attr == a1.Attr)))) rfl rfl ?_
  refine WO.split 6 (SH H [(2, (.ptr i1 0)), (3, (.ptr i2 0)), (25, (.bool (((a0.Kind != a1.Kind) || (!(a0.Attr == a1.Attr))) || (!(a0.Value == a1.Value)))))]) ?_ ?_
  revert H
  cases hc4 : ((a0.Kind != a1.Kind) || (!(a0.Attr == a1.Attr)))
  intro H
  refine us 1 rfl <| WO.go0 rfl rfl <| wg H 1 rfl rfl rfl rfl <| us 1 rfl <| WO.go0 rfl rfl <| wg H 0 rfl rfl rfl rfl <| us 2 rfl <| WO.nil ?_
  exact kf H
  intro H
  refine us 6 rfl <| WO.nil ?_
  exact kf H
  rintro σ S e ⟨hk, H, rfl⟩
  refine WO.of_known hk <| w (.bool (((a0.Kind != a1.Kind) || (!(a0.Attr == a1.Attr))) || (!(a0.Value == a1.Value)))) rfl rfl ?_
  refine WO.split 8 (SH H [(2, (.ptr i1 0)), (3, (.ptr i2 0)), (34, (.bool ((((a0.Kind != a1.Kind) || (!(a0.Attr == a1.Attr))) || (!(a0.Value == a1.Value))) || ((Sl.len a0.Subs) != (Sl.len a1.Subs)))))]) ?_ ?_
  revert H
  cases hc5 : (((a0.Kind != a1.Kind) || (!(a0.Attr == a1.Attr))) || (!(a0.Value == a1.Value)))
  intro H
  refine us 1 rfl <| WO.go0 rfl rfl <| wg H 1 rfl rfl rfl rfl <| WO.go0 rfl rfl <| wl rfl rfl rfl <| us 1 rfl <| WO.go0 rfl rfl <| wg H 0 rfl rfl rfl rfl <| WO.go0 rfl rfl <| wl rfl rfl rfl <| us 2 rfl <| WO.nil ?_
  exact kf H
  intro H
  refine us 8 rfl <| WO.nil ?_
  exact kf H
  rintro σ S e ⟨hk, H, rfl⟩
  refine WO.of_known hk <| w (.bool ((((a0.Kind != a1.Kind) || (!(a0.Attr == a1.Attr))) || (!(a0.Value == a1.Value))) || ((Sl.len a0.Subs) != (Sl.len a1.Subs)))) rfl rfl ?_
  refine WO.split 8 (SH H [(2, (.ptr i1 0)), (3, (.ptr i2 0)), (43, (.bool (((((a0.Kind != a1.Kind) || (!(a0.Attr == a1.Attr))) || (!(a0.Value == a1.Value))) || ((Sl.len a0.Subs) != (Sl.len a1.Subs))) || ((Sl.len a0.Kids) != (Sl.len a1.Kids)))))]) ?_ ?_
  revert H
  cases hc6 : ((((a0.Kind != a1.Kind) || (!(a0.Attr == a1.Attr))) || (!(a0.Value == a1.Value))) || ((Sl.len a0.Subs) != (Sl.len a1.Subs)))
  intro H
  refine us 1 rfl <| WO.go0 rfl rfl <| wg H 1 rfl rfl rfl rfl <| WO.go0 rfl rfl <| wl rfl rfl rfl <| us 1 rfl <| WO.go0 rfl rfl <| wg H 0 rfl rfl rfl rfl <| WO.go0 rfl rfl <| wl rfl rfl rfl <| us 2 rfl <| WO.nil ?_
  exact kf H
  intro H
  refine us 8 rfl <| WO.nil ?_
  exact kf H
  rintro σ S e ⟨hk, H, rfl⟩
  refine WO.of_known hk <| WO.nil ?_
  rcases iteS h with ⟨hc92, h⟩ | ⟨hc92, h⟩
  refine WC.condT rfl hc92 <| WC.seqR <| us 1 rfl <| WO.nil <| WC.ret <| KX.seq_r ?_
  have h := oi h; subst h
  exact kr (.bool false) rfl rfl rfl
  refine WC.condF rfl hc92 <| WC.skip <| KX.seq_n <| WC.seq <| WC.seqR <| us 1 rfl <| WO.nil ?_
  obtain ⟨y46, hy46, hOy46⟩ := bindS h
  refine WC.block ?_
  refine l20_L0 ih hi2 hi1 ?_ ?_ hy46  kn (hs H)
  intro y46r he σ S  hk H; subst he; replace h := hOy46; dsimp only at h
  refine KX.of_known hk <| KX.block_r <| KX.seq_r ?_
  have h := oi h; subst h
  exact kr (.bool y46r) rfl rfl rfl
  intro y46b he σ S  hk H; subst he; replace h := hOy46; dsimp only at h
  refine KX.of_known hk <| KX.block_x <| KX.seq_n <| WC.seq <| WC.seqR <| us 1 rfl <| WO.nil ?_
  obtain ⟨y91, hy91, hOy91⟩ := bindS h
  refine WC.block ?_
  refine l20_L2 ih hi2 hi1 ?_ ?_ hy91  kn (hs H)
  intro y91r he σ S  hk H; subst he; replace h := hOy91; dsimp only at h
  refine KX.of_known hk <| KX.block_r <| KX.seq_r ?_
  have h := oi h; subst h
  exact kr (.bool y91r) rfl rfl rfl
  intro y91b he σ S  hk H; subst he; replace h := hOy91; dsimp only at h
  refine KX.of_known hk <| KX.block_x <| KX.seq_n <| WC.seqR <| us 1 rfl <| WO.nil <| WC.ret ?_
  have h := oi h; subst h
  exact kr (.bool true) rfl rfl rfl
def F21_L0 (k : Nat) (a27 : Sl Str) (a28 : Sl Str) : Nat → Int → Option (Out Bool Int)
 | 0, _ => none
 | n + 1, x29 =>
  if decide (x29 < (Sl.len a27)) then
  Option.bind (Sl.at? a27 x29) fun y35 =>
  Option.bind (Sl.at? a28 x29) fun y36 =>
  if !(y35 == y36) then
  some (Out.ret false)
  else
  F21_L0 k a27 a28 n (ad .i64 x29 1)
  else
  some (Out.brk x29)
def F21 (k : Nat) (a0 : Sl Str) (a1 : Sl Str) : Option Bool :=
 if (Sl.len a0) != (Sl.len a1) then
 some false
 else
 Option.bind (F21_L0 k a0 a1 k 0) fun y40 =>
 match y40 with
 | .ret y40r => some y40r
 | .brk y40b =>
 some true
theorem l21_L0 {k : Nat} {a27 : Sl Str} {a28 : Sl Str} {S0 : List SObj} {R : List Nat} {K : KX}  {o : Out Bool Int}
  (hret : ∀ r : Bool, o = .ret r → EK [(4, (.bool r))] S0 R [] [] [] (K .ret))
  (hbrk : ∀ y : Int, o = .brk y → EK [] S0 R [] [] [] (K (.exit 0))) :
  ∀ {n : Nat} {x29 : Int}, F21_L0 k a27 a28 n x29 = some o → ∀ {σ : Nat → PV} {S : List SObj}, Known [(0, (encSl eS a27)), (1, (encSl eS a28)), (5, (.int .i64 x29))] σ → Hp S0 R S [] [] [] → WC env ⟨26, S0.length⟩ (.loop pc21L0) σ S false K := by
 intro n
 induction n with
 | zero => intro _ h; cases h
 | succ n ih =>
  intro x29 h σ S  hk H
  rw [F21_L0] at h
  refine WC.loop <| WC.of_known hk <| WC.seq <| WC.seqR <| us 2 rfl <| wl rfl rfl rfl <| us 1 rfl <| WO.nil ?_
  rcases iteS h with ⟨hc39, h⟩ | ⟨hc39, h⟩
  refine WC.condT rfl hc39 <| WC.skip <| KX.seq_n <| WC.seq <| WC.block <| WC.seq <| WC.draw <| wh (encSl eS a27) rfl rfl <| wh (.int .i64 x29) rfl rfl ?_
  obtain ⟨y35, hy35, h⟩ := bindS h
  refine WH.step (v := (.iptr [(.str y35)] 0)) rfl (nz rfl (stp_idxAddr rfl (isSl_enc _ _) rfl rfl rfl hy35 rfl rfl)) rfl rfl <| wh (.str y35) rfl rfl <| wh (encSl eS a28) rfl rfl <| wh (.int .i64 x29) rfl rfl ?_
  obtain ⟨y36, hy36, h⟩ := bindS h
  refine WH.step (v := (.iptr [(.str y36)] 0)) rfl (nz rfl (stp_idxAddr rfl (isSl_enc _ _) rfl rfl rfl hy36 rfl rfl)) rfl rfl <| wh (.str y36) rfl rfl <| WH.nil <| us 1 rfl <| WO.nil <| KX.seq_n ?_
  rcases iteS h with ⟨hc38, h⟩ | ⟨hc38, h⟩
  refine WC.condT rfl hc38 <| WC.seqR <| us 1 rfl <| WO.nil <| WC.ret <| KX.block_r <| KX.seq_r <| KX.seq_r ?_
  have h := oi h; subst h
  exact hret _ rfl kn (hs H)
  refine WC.condF rfl hc38 <| WC.skip <| KX.block_n <| KX.seq_n <| WC.region <| us 3 rfl <| WO.nil <| KX.seq_n ?_
  exact ih h  kn (hs H)
  refine WC.condF rfl hc39 <| WC.exit <| KX.seq_x <| KX.seq_x ?_
  have h := oi h; subst h
  exact hbrk _ rfl  known_nil (hs H)
theorem s21 : ∀ k : Nat, ∀ {a0 : Sl Str} {a1 : Sl Str} {r : Bool}, F21 k a0 a1 = some r → Q 21 [(encSl eS a0), (encSl eS a1)] (.bool r) := by
 intro k a0 a1 r h
 unfold F21 at h
 refine Qe.go (pf := fn21) rfl rfl (Nat.le_of_ble_eq_true rfl) (by simp [PV.clean, cleanL, clean_encSl clean_eS]) rfl rfl fun H => ?_
 refine WC.seqR <| us 1 rfl <| WO.nil <| WC.seq <| WC.seqR <| us 1 rfl <| wl rfl rfl rfl <| us 1 rfl <| wl rfl rfl rfl <| us 1 rfl <| WO.nil ?_
 rcases iteS h with ⟨hc41, h⟩ | ⟨hc41, h⟩
 refine WC.condT rfl hc41 <| WC.seqR <| us 1 rfl <| WO.nil <| WC.ret <| KX.seq_r ?_
 have h := oi h; subst h
 exact kr (.bool false) rfl rfl rfl
 refine WC.condF rfl hc41 <| WC.skip <| KX.seq_n <| WC.seq <| WC.seqR <| us 1 rfl <| WO.nil ?_
 obtain ⟨y40, hy40, hOy40⟩ := bindS h
 refine WC.block ?_
 refine l21_L0 ?_ ?_ hy40  kn (hs H)
 intro y40r he σ S  hk H; subst he; replace h := hOy40; dsimp only at h
 refine KX.of_known hk <| KX.block_r <| KX.seq_r ?_
 have h := oi h; subst h
 exact kr (.bool y40r) rfl rfl rfl
 intro y40b he σ S  hk H; subst he; replace h := hOy40; dsimp only at h
 refine KX.of_known hk <| KX.block_x <| KX.seq_n <| WC.seqR <| us 1 rfl <| WO.nil <| WC.ret ?_
 have h := oi h; subst h
 exact kr (.bool true) rfl rfl rfl
def F22_L0 (k : Nat) (a107 : Sl Api_Mod) (a108 : Sl Api_Mod) : Nat → Int → Option (Out Bool Int)
 | 0, _ => none
 | n + 1, x109 =>
  if decide (x109 < (Sl.len a107)) then
  Option.bind (Sl.at? a107 x109) fun y135 =>
  Option.bind (Sl.at? a108 x109) fun y136 =>
  Option.bind (if y135.Kind != y136.Kind then
  some true
  else
  Option.bind (Sl.at? a107 x109) fun y145 =>
  Option.bind (Sl.at? a108 x109) fun y146 =>
  some (!(y145.Attr == y146.Attr))) fun y144 =>
  Option.bind (if y144 then
  some true
  else
  Option.bind (Sl.at? a107 x109) fun y153 =>
  Option.bind (Sl.at? a108 x109) fun y154 =>
  Option.bind (F21 k y153.Values y154.Values) fun y155 =>
  some (!y155)) fun y152 =>
  if y152 then
  some (Out.ret false)
  else
  F22_L0 k a107 a108 n (ad .i64 x109 1)
  else
  some (Out.brk x109)
def F22 (k : Nat) (a0 : Sl Api_Mod) (a1 : Sl Api_Mod) : Option Bool :=
 if (Sl.len a0) != (Sl.len a1) then
 some false
 else
 Option.bind (F22_L0 k a0 a1 k 0) fun y160 =>
 match y160 with
 | .ret y160r => some y160r
 | .brk y160b =>
 some true
theorem l22_L0 {k : Nat} {a107 : Sl Api_Mod} {a108 : Sl Api_Mod} {S0 : List SObj} {R : List Nat} {K : KX}  {o : Out Bool Int}
  (hret : ∀ r : Bool, o = .ret r → EK [(4, (.bool r))] S0 R [] [] [] (K .ret))
  (hbrk : ∀ y : Int, o = .brk y → EK [] S0 R [] [] [] (K (.exit 0))) :
  ∀ {n : Nat} {x109 : Int}, F22_L0 k a107 a108 n x109 = some o → ∀ {σ : Nat → PV} {S : List SObj}, Known [(0, (encSl e_Api_Mod a107)), (1, (encSl e_Api_Mod a108)), (5, (.int .i64 x109))] σ → Hp S0 R S [] [] [] → WC env ⟨55, S0.length⟩ (.loop pc22L0) σ S false K := by
 intro n
 induction n with
 | zero => intro _ h; cases h
 | succ n ih =>
  intro x109 h σ S  hk H
  rw [F22_L0] at h
  refine WC.loop <| WC.of_known hk <| WC.seq <| WC.seqR <| us 2 rfl <| wl rfl rfl rfl <| us 1 rfl <| WO.nil ?_
  rcases iteS h with ⟨hc159, h⟩ | ⟨hc159, h⟩
  refine WC.condT rfl hc159 <| WC.skip <| KX.seq_n <| WC.seq <| WC.block <| WC.seq <| WC.draw <| wh (encSl e_Api_Mod a107) rfl rfl <| wh (.int .i64 x109) rfl rfl ?_
  obtain ⟨y135, hy135, h⟩ := bindS h
  refine WH.step (v := (.iptr (c_Api_Mod y135) 0)) rfl (nz rfl (stp_idxAddr rfl (isSl_enc _ _) rfl rfl rfl hy135 (e_Api_Mod_cells _) rfl)) rfl rfl <| wh (.iptr (c_Api_Mod y135) 0) rfl rfl <| wh (.int .i64 y135.Kind) rfl rfl <| wh (encSl e_Api_Mod a108) rfl rfl <| wh (.int .i64 x109) rfl rfl ?_
  obtain ⟨y136, hy136, h⟩ := bindS h
  refine WH.step (v := (.iptr (c_Api_Mod y136) 0)) rfl (nz rfl (stp_idxAddr rfl (isSl_enc _ _) rfl rfl rfl hy136 (e_Api_Mod_cells _) rfl)) rfl rfl <| wh (.iptr (c_Api_Mod y136) 0) rfl rfl <| wh (.int .i64 y136.Kind) rfl rfl <| wh (.bool (y135.Kind != y136.Kind)) rfl rfl <| wh (.bool (y135.Kind != y136.Kind)) rfl rfl ?_
  obtain ⟨y144, hy144, hOy144⟩ := bindS h
  refine WH.split 12 (fun σ' => Known ([(0, (encSl e_Api_Mod a107)), (1, (encSl e_Api_Mod a108)), (5, (.int .i64 x109)), (40, (.bool y144))]) σ') ?_ ?_
  replace h := hy144
  revert H
  cases hc147 : (y135.Kind != y136.Kind)
  intro H
  replace h := iteF h hc147
  refine WH.go0 rfl rfl <| wh (encSl e_Api_Mod a107) rfl rfl <| WH.go0 rfl rfl <| wh (.int .i64 x109) rfl rfl <| WH.go0 rfl rfl ?_
  obtain ⟨y145, hy145, h⟩ := bindS h
  refine WH.step (v := (.iptr (c_Api_Mod y145) 0)) rfl (nz rfl (stp_idxAddr rfl (isSl_enc _ _) rfl rfl rfl hy145 (e_Api_Mod_cells _) rfl)) rfl rfl <| WH.go0 rfl rfl <| wh (.iptr (c_Api_Mod y145) 1) rfl rfl <| WH.go0 rfl rfl <| wh (.str y145.Attr) rfl rfl <| WH.go0 rfl rfl <| wh (encSl e_Api_Mod a108) rfl rfl <| WH.go0 rfl rfl <| wh (.int .i64 x109) rfl rfl <| WH.go0 rfl rfl ?_
  obtain ⟨y146, hy146, h⟩ := bindS h
  refine WH.step (v := (.iptr (c_Api_Mod y146) 0)) rfl (nz rfl (stp_idxAddr rfl (isSl_enc _ _) rfl rfl rfl hy146 (e_Api_Mod_cells _) rfl)) rfl rfl <| WH.go0 rfl rfl <| wh (.iptr (c_Api_Mod y146) 1) rfl rfl <| WH.go0 rfl rfl <| wh (.str y146.Attr) rfl rfl <| WH.go0 rfl rfl <| WH.step (v := (.bool (!(y145.Attr == y146.Attr)))) rfl (nz rfl rfl) rfl rfl <| WH.step (v := (.bool (!(y145.Attr == y146.Attr)))) rfl (nz rfl rfl) rfl rfl <| WH.nil ?_
  have h := oi h; subst h
  exact kn
  intro H
  replace h := iteT h hc147
  refine WH.by rfl rfl rfl <| WH.by rfl rfl rfl <| WH.by rfl rfl rfl <| WH.by rfl rfl rfl <| WH.by rfl rfl rfl <| WH.by rfl rfl rfl <| WH.by rfl rfl rfl <| WH.by rfl rfl rfl <| WH.by rfl rfl rfl <| WH.by rfl rfl rfl <| WH.by rfl rfl rfl <| wh (.bool true) rfl rfl <| WH.nil ?_
  have h := oi h; subst h
  exact kn
  rintro σ hk
  replace h := hOy144
  refine WH.of_known hk <| wh (.bool y144) rfl rfl ?_
  obtain ⟨y152, hy152, hOy152⟩ := bindS h
  refine WD.split 3 (SJ [(0, (encSl e_Api_Mod a107)), (1, (encSl e_Api_Mod a108)), (5, (.int .i64 x109)), (54, (.bool y152))] S0 R [] [] [] false) ?_ ?_
  replace h := hy152
  revert H
  cases hc156 : y144
  intro H
  replace h := iteF h hc156
  refine WH.go0 rfl rfl <| wh (encSl e_Api_Mod a107) rfl rfl <| WH.go0 rfl rfl <| wh (.int .i64 x109) rfl rfl <| WH.go0 rfl rfl ?_
  obtain ⟨y153, hy153, h⟩ := bindS h
  refine WH.step (v := (.iptr (c_Api_Mod y153) 0)) rfl (nz rfl (stp_idxAddr rfl (isSl_enc _ _) rfl rfl rfl hy153 (e_Api_Mod_cells _) rfl)) rfl rfl <| WH.go0 rfl rfl <| wh (.iptr (c_Api_Mod y153) 2) rfl rfl <| WH.go0 rfl rfl <| wh (encSl eS y153.Values) rfl rfl <| WH.go0 rfl rfl <| wh (encSl e_Api_Mod a108) rfl rfl <| WH.go0 rfl rfl <| wh (.int .i64 x109) rfl rfl <| WH.go0 rfl rfl ?_
  obtain ⟨y154, hy154, h⟩ := bindS h
  refine WH.step (v := (.iptr (c_Api_Mod y154) 0)) rfl (nz rfl (stp_idxAddr rfl (isSl_enc _ _) rfl rfl rfl hy154 (e_Api_Mod_cells _) rfl)) rfl rfl <| WH.go0 rfl rfl <| wh (.iptr (c_Api_Mod y154) 2) rfl rfl <| WH.go0 rfl rfl <| wh (encSl eS y154.Values) rfl rfl <| WH.nil <| WO.go0 rfl rfl ?_
  obtain ⟨y155, hy155, h⟩ := bindS h
  refine cl (.bool y155) [(encSl eS y153.Values), (encSl eS y154.Values)] rfl rfl rfl (fe rfl (fe rfl rfl)) (sv (s21 _ hy155)) <| us 2 rfl <| WO.nil ?_
  have h := oi h; subst h
  exact kh H
  intro H
  replace h := iteT h hc156
  refine WH.by rfl rfl rfl <| WH.by rfl rfl rfl <| WH.by rfl rfl rfl <| WH.by rfl rfl rfl <| WH.by rfl rfl rfl <| WH.by rfl rfl rfl <| WH.by rfl rfl rfl <| WH.by rfl rfl rfl <| WH.by rfl rfl rfl <| WH.by rfl rfl rfl <| WH.nil <| us 3 rfl <| WO.nil ?_
  have h := oi h; subst h
  exact kh H
  rintro σ S e ⟨hk, H, rfl⟩
  replace h := hOy152
  refine WO.of_known hk <| WO.nil <| KX.seq_n ?_
  rcases iteS h with ⟨hc158, h⟩ | ⟨hc158, h⟩
  refine WC.condT rfl hc158 <| WC.seqR <| us 1 rfl <| WO.nil <| WC.ret <| KX.block_r <| KX.seq_r <| KX.seq_r ?_
  have h := oi h; subst h
  exact hret _ rfl kn (hs H)
  refine WC.condF rfl hc158 <| WC.skip <| KX.block_n <| KX.seq_n <| WC.region <| us 3 rfl <| WO.nil <| KX.seq_n ?_
  exact ih h  kn (hs H)
  refine WC.condF rfl hc159 <| WC.exit <| KX.seq_x <| KX.seq_x ?_
  have h := oi h; subst h
  exact hbrk _ rfl  known_nil (hs H)
theorem s22 : ∀ k : Nat, ∀ {a0 : Sl Api_Mod} {a1 : Sl Api_Mod} {r : Bool}, F22 k a0 a1 = some r → Q 22 [(encSl e_Api_Mod a0), (encSl e_Api_Mod a1)] (.bool r) := by
 intro k a0 a1 r h
 unfold F22 at h
 refine Qe.go (pf := fn22) rfl rfl (Nat.le_of_ble_eq_true rfl) (by simp [PV.clean, cleanL, clean_encSl clean_Api_Mod]) rfl rfl fun H => ?_
 refine WC.seqR <| us 1 rfl <| WO.nil <| WC.seq <| WC.seqR <| us 1 rfl <| wl rfl rfl rfl <| us 1 rfl <| wl rfl rfl rfl <| us 1 rfl <| WO.nil ?_
 rcases iteS h with ⟨hc161, h⟩ | ⟨hc161, h⟩
 refine WC.condT rfl hc161 <| WC.seqR <| us 1 rfl <| WO.nil <| WC.ret <| KX.seq_r ?_
 have h := oi h; subst h
 exact kr (.bool false) rfl rfl rfl
 refine WC.condF rfl hc161 <| WC.skip <| KX.seq_n <| WC.seq <| WC.seqR <| us 1 rfl <| WO.nil ?_
 obtain ⟨y160, hy160, hOy160⟩ := bindS h
 refine WC.block ?_
 refine l22_L0 ?_ ?_ hy160  kn (hs H)
 intro y160r he σ S  hk H; subst he; replace h := hOy160; dsimp only at h
 refine KX.of_known hk <| KX.block_r <| KX.seq_r ?_
 have h := oi h; subst h
 exact kr (.bool y160r) rfl rfl rfl
 intro y160b he σ S  hk H; subst he; replace h := hOy160; dsimp only at h
 refine KX.of_known hk <| KX.block_x <| KX.seq_n <| WC.seqR <| us 1 rfl <| WO.nil <| WC.ret ?_
 have h := oi h; subst h
 exact kr (.bool true) rfl rfl rfl
def F8 (k : Nat) (a0 : Api_Msg) (a1 : Api_Msg) : Option Bool :=
 Option.bind (if (((((((a0.ID == a1.ID) && (a0.Op == a1.Op)) && (a0.Of == a1.Of)) && (a0.DN == a1.DN)) && (a0.Version == a1.Version)) && (a0.Pass == a1.Pass)) && (a0.Scope == a1.Scope)) && (a0.Size == a1.Size) then
 Option.bind (F20 k a0.Filter a1.Filter) fun y15 =>
 some y15
 else
 some false) fun y14 =>
 Option.bind (if y14 then
 Option.bind (F21 k a0.Wants a1.Wants) fun y22 =>
 some y22
 else
 some false) fun y21 =>
 Option.bind (if y21 then
 Option.bind (F22 k a0.Mods a1.Mods) fun y29 =>
 some y29
 else
 some false) fun y28 =>
 some ((((((((y28 && (a0.RDN == a1.RDN)) && (a0.DelOld == a1.DelOld)) && (a0.HasSup == a1.HasSup)) && (a0.Sup == a1.Sup)) && (a0.Attr == a1.Attr)) && (a0.Value == a1.Value)) && (a0.Code == a1.Code)) && (a0.Matched == a1.Matched))
theorem s8 : ∀ k : Nat, ∀ {a0 : Api_Msg} {a1 : Api_Msg} {r : Bool}, F8 k a0 a1 = some r → Q 8 [(.agg (c_Api_Msg a0)), (.agg (c_Api_Msg a1))] (.bool r) := by
 intro k a0 a1 r h
 unfold F8 at h
 refine Qe.go (pf := fn8) rfl rfl (Nat.le_of_ble_eq_true rfl) (by simp [PV.clean, cleanL, clean_encSl clean_Api_Filter, clean_encSl clean_Api_Mod, clean_encSl clean_eS]) rfl rfl fun H => ?_
 refine WC.seqR <| WO.box' rfl rfl rfl rfl rfl H ?_
 intro i1 S hi1 H
 refine WO.box' rfl rfl rfl rfl rfl H ?_
 intro i2 S hi2 H
 refine us 1 rfl <| WO.nil <| WC.seqR <| us 1 rfl <| wg H 1 rfl rfl rfl rfl <| us 1 rfl <| wg H 0 rfl rfl rfl rfl <| w (.bool (a0.ID == a1.ID)) rfl rfl <| w (.bool (a0.ID == a1.ID)) rfl rfl ?_
 refine WO.split 6 (SH H [(2, (.ptr i1 0)), (3, (.ptr i2 0)), (16, (.bool ((a0.ID == a1.ID) && (a0.Op == a1.Op))))]) ?_ ?_
 revert H
 cases hc3 : (a0.ID == a1.ID)
 intro H
 refine us 6 rfl <| WO.nil ?_
 exact kf H
 intro H
 refine us 1 rfl <| WO.go0 rfl rfl <| wg H 1 rfl rfl rfl rfl <| us 1 rfl <| WO.go0 rfl rfl <| wg H 0 rfl rfl rfl rfl <| us 2 rfl <| WO.nil ?_
 exact kf H
 rintro σ S e ⟨hk, H, rfl⟩
 refine WO.of_known hk <| w (.bool ((a0.ID == a1.ID) && (a0.Op == a1.Op))) rfl rfl ?_
 refine WO.split 6 (SH H [(2, (.ptr i1 0)), (3, (.ptr i2 0)), (23, (.bool (((a0.ID == a1.ID) && (a0.Op == a1.Op)) && (a0.Of == a1.Of))))]) ?_ ?_
 revert H
 cases hc4 : ((a0.ID == a1.ID) && (a0.Op == a1.Op))
 intro H
 refine us 6 rfl <| WO.nil ?_
 exact kf H
 intro H
 refine us 1 rfl <| WO.go0 rfl rfl <| wg H 1 rfl rfl rfl rfl <| us 1 rfl <| WO.go0 rfl rfl <| wg H 0 rfl rfl rfl rfl <| us 2 rfl <| WO.nil ?_
 exact kf H
 rintro σ S e ⟨hk, H, rfl⟩
 refine WO.of_known hk <| w (.bool (((a0.ID == a1.ID) && (a0.Op == a1.Op)) && (a0.Of == a1.Of))) rfl rfl ?_
 refine WO.split 6 (SH H [(2, (.ptr i1 0)), (3, (.ptr i2 0)), (30, (.bool ((((a0.ID == a1.ID) && (a0.Op == a1.Op)) && (a0.Of == a1.Of)) && (a0.DN == a1.DN))))]) ?_ ?_
 revert H
 cases hc5 : (((a0.ID == a1.ID) && (a0.Op == a1.Op)) && (a0.Of == a1.Of))
 intro H
 refine us 6 rfl <| WO.nil ?_
 exact kf H
 intro H
 refine us 1 rfl <| WO.go0 rfl rfl <| wg H 1 rfl rfl rfl rfl <| us 1 rfl <| WO.go0 rfl rfl <| wg H 0 rfl rfl rfl rfl <| us 2 rfl <| WO.nil ?_
 exact kf H
 rintro σ S e ⟨hk, H, rfl⟩
 refine WO.of_known hk <| w (.bool ((((a0.ID == a1.ID) && (a0.Op == a1.Op)) && (a0.Of == a1.Of)) && (a0.DN == a1.DN))) rfl rfl ?_
 refine WO.split 6 (SH H [(2, (.ptr i1 0)), (3, (.ptr i2 0)), (37, (.bool (((((a0.ID == a1.ID) && (a0.Op == a1.Op)) && (a0.Of == a1.Of)) && (a0.DN == a1.DN)) && (a0.Version == a1.Version))))]) ?_ ?_
 revert H
 cases hc6 : ((((a0.ID == a1.ID) && (a0.Op == a1.Op)) && (a0.Of == a1.Of)) && (a0.DN == a1.DN))
 intro H
 refine us 6 rfl <| WO.nil ?_
 exact kf H
 intro H
 refine us 1 rfl <| WO.go0 rfl rfl <| wg H 1 rfl rfl rfl rfl <| us 1 rfl <| WO.go0 rfl rfl <| wg H 0 rfl rfl rfl rfl <| us 2 rfl <| WO.nil ?_
 exact kf H
 rintro σ S e ⟨hk, H, rfl⟩
 refine WO.of_known hk <| w (.bool (((((a0.ID == a1.ID) && (a0.Op == a1.Op)) && (a0.Of == a1.Of)) && (a0.DN == a1.DN)) && (a0.Version == a1.Version))) rfl rfl ?_
 refine WO.split 6 (SH H [(2, (.ptr i1 0)), (3, (.ptr i2 0)), (44, (.bool ((((((a0.ID == a1.ID) && (a0.Op == a1.Op)) && (a0.Of == a1.Of)) && (a0.DN == a1.DN)) && (a0.Version == a1.Version)) && (a0.Pass == a1.Pass))))]) ?_ ?_
 revert H
 cases hc7 : (((((a0.ID == a1.ID) && (a0.Op == a1.Op)) && (a0.Of == a1.Of)) && (a0.DN == a1.DN)) && (a0.Version == a1.Version))
 intro H
 refine us 6 rfl <| WO.nil ?_
 exact kf H
 intro H
 refine us 1 rfl <| WO.go0 rfl rfl <| wg H 1 rfl rfl rfl rfl <| us 1 rfl <| WO.go0 rfl rfl <| wg H 0 rfl rfl rfl rfl <| us 2 rfl <| WO.nil ?_
 exact kf H
 rintro σ S e ⟨hk, H, rfl⟩
 refine WO.of_known hk <| w (.bool ((((((a0.ID == a1.ID) && (a0.Op == a1.Op)) && (a0.Of == a1.Of)) && (a0.DN == a1.DN)) && (a0.Version == a1.Version)) && (a0.Pass == a1.Pass))) rfl rfl ?_
 refine WO.split 6 (SH H [(2, (.ptr i1 0)), (3, (.ptr i2 0)), (51, (.bool (((((((a0.ID == a1.ID) && (a0.Op == a1.Op)) && (a0.Of == a1.Of)) && (a0.DN == a1.DN)) && (a0.Version == a1.Version)) && (a0.Pass == a1.Pass)) && (a0.Scope == a1.Scope))))]) ?_ ?_
 revert H
 cases hc8 : ((((((a0.ID == a1.ID) && (a0.Op == a1.Op)) && (a0.Of == a1.Of)) && (a0.DN == a1.DN)) && (a0.Version == a1.Version)) && (a0.Pass == a1.Pass))
 intro H
 refine us 6 rfl <| WO.nil ?_
 exact kf H
 intro H
 refine us 1 rfl <| WO.go0 rfl rfl <| wg H 1 rfl rfl rfl rfl <| us 1 rfl <| WO.go0 rfl rfl <| wg H 0 rfl rfl rfl rfl <| us 2 rfl <| WO.nil ?_
 exact kf H
 rintro σ S e ⟨hk, H, rfl⟩
 refine WO.of_known hk <| w (.bool (((((((a0.ID == a1.ID) && (a0.Op == a1.Op)) && (a0.Of == a1.Of)) && (a0.DN == a1.DN)) && (a0.Version == a1.Version)) && (a0.Pass == a1.Pass)) && (a0.Scope == a1.Scope))) rfl rfl ?_
 refine WO.split 6 (SH H [(2, (.ptr i1 0)), (3, (.ptr i2 0)), (58, (.bool ((((((((a0.ID == a1.ID) && (a0.Op == a1.Op)) && (a0.Of == a1.Of)) && (a0.DN == a1.DN)) && (a0.Version == a1.Version)) && (a0.Pass == a1.Pass)) && (a0.Scope == a1.Scope)) && (a0.Size == a1.Size))))]) ?_ ?_
 revert H
 cases hc9 : (((((((a0.ID == a1.ID) && (a0.Op == a1.Op)) && (a0.Of == a1.Of)) && (a0.DN == a1.DN)) && (a0.Version == a1.Version)) && (a0.Pass == a1.Pass)) && (a0.Scope == a1.Scope))
 intro H
 refine us 6 rfl <| WO.nil ?_
 exact kf H
 intro H
 refine us 1 rfl <| WO.go0 rfl rfl <| wg H 1 rfl rfl rfl rfl <| us 1 rfl <| WO.go0 rfl rfl <| wg H 0 rfl rfl rfl rfl <| us 2 rfl <| WO.nil ?_
 exact kf H
 rintro σ S e ⟨hk, H, rfl⟩
 refine WO.of_known hk <| w (.bool ((((((((a0.ID == a1.ID) && (a0.Op == a1.Op)) && (a0.Of == a1.Of)) && (a0.DN == a1.DN)) && (a0.Version == a1.Version)) && (a0.Pass == a1.Pass)) && (a0.Scope == a1.Scope)) && (a0.Size == a1.Size))) rfl rfl ?_
 obtain ⟨y14, hy14, hOy14⟩ := bindS h
 refine WO.split 6 (SJ [(2, (.ptr i1 0)), (3, (.ptr i2 0)), (65, (.bool y14))] [] [] [(i2, .cells (c_Api_Msg a1)), (i1, .cells (c_Api_Msg a0))] [] [] false) ?_ ?_
 replace h := hy14
 revert H
 cases hc16 : ((((((((a0.ID == a1.ID) && (a0.Op == a1.Op)) && (a0.Of == a1.Of)) && (a0.DN == a1.DN)) && (a0.Version == a1.Version)) && (a0.Pass == a1.Pass)) && (a0.Scope == a1.Scope)) && (a0.Size == a1.Size))
 intro H
 replace h := iteF h hc16
 refine us 6 rfl <| WO.nil ?_
 have h := oi h; subst h
 exact kh H
 intro H
 replace h := iteT h hc16
 refine us 1 rfl <| WO.go0 rfl rfl <| wg H 1 rfl rfl rfl rfl <| us 1 rfl <| WO.go0 rfl rfl <| wg H 0 rfl rfl rfl rfl <| WO.go0 rfl rfl ?_
 obtain ⟨y15, hy15, h⟩ := bindS h
 refine cl (.bool y15) [(.agg (c_Api_Filter a0.Filter)), (.agg (c_Api_Filter a1.Filter))] rfl rfl rfl rfl (sv (s20 _ hy15)) <| us 1 rfl <| WO.nil ?_
 have h := oi h; subst h
 exact kh H
 rintro σ S e ⟨hk, H, rfl⟩
 replace h := hOy14
 refine WO.of_known hk <| us 1 rfl ?_
 obtain ⟨y21, hy21, hOy21⟩ := bindS h
 refine WO.split 6 (SJ [(2, (.ptr i1 0)), (3, (.ptr i2 0)), (72, (.bool y21))] [] [] [(i2, .cells (c_Api_Msg a1)), (i1, .cells (c_Api_Msg a0))] [] [] false) ?_ ?_
 replace h := hy21
 revert H
 cases hc23 : y14
 intro H
 replace h := iteF h hc23
 refine us 6 rfl <| WO.nil ?_
 have h := oi h; subst h
 exact kh H
 intro H
 replace h := iteT h hc23
 refine us 1 rfl <| WO.go0 rfl rfl <| wg H 1 rfl rfl rfl rfl <| us 1 rfl <| WO.go0 rfl rfl <| wg H 0 rfl rfl rfl rfl <| WO.go0 rfl rfl ?_
 obtain ⟨y22, hy22, h⟩ := bindS h
 refine cl (.bool y22) [(encSl eS a0.Wants), (encSl eS a1.Wants)] rfl rfl rfl (fe rfl (fe rfl rfl)) (sv (s21 _ hy22)) <| us 1 rfl <| WO.nil ?_
 have h := oi h; subst h
 exact kh H
 rintro σ S e ⟨hk, H, rfl⟩
 replace h := hOy21
 refine WO.of_known hk <| us 1 rfl ?_
 obtain ⟨y28, hy28, hOy28⟩ := bindS h
 refine WO.split 6 (SJ [(2, (.ptr i1 0)), (3, (.ptr i2 0)), (79, (.bool y28))] [] [] [(i2, .cells (c_Api_Msg a1)), (i1, .cells (c_Api_Msg a0))] [] [] false) ?_ ?_
 replace h := hy28
 revert H
 cases hc30 : y21
 intro H
 replace h := iteF h hc30
 refine us 6 rfl <| WO.nil ?_
 have h := oi h; subst h
 exact kh H
 intro H
 replace h := iteT h hc30
 refine us 1 rfl <| WO.go0 rfl rfl <| wg H 1 rfl rfl rfl rfl <| us 1 rfl <| WO.go0 rfl rfl <| wg H 0 rfl rfl rfl rfl <| WO.go0 rfl rfl ?_
 obtain ⟨y29, hy29, h⟩ := bindS h
 refine cl (.bool y29) [(encSl e_Api_Mod a0.Mods), (encSl e_Api_Mod a1.Mods)] rfl rfl rfl (fe rfl (fe rfl rfl)) (sv (s22 _ hy29)) <| us 1 rfl <| WO.nil ?_
 have h := oi h; subst h
 exact kh H
 rintro σ S e ⟨hk, H, rfl⟩
 replace h := hOy28
 refine WO.of_known hk <| us 1 rfl ?_
 refine WO.split 6 (SH H [(2, (.ptr i1 0)), (3, (.ptr i2 0)), (86, (.bool (y28 && (a0.RDN == a1.RDN))))]) ?_ ?_
 revert H
 cases hc31 : y28
 intro H
 refine us 6 rfl <| WO.nil ?_
 exact kf H
 intro H
 refine us 1 rfl <| WO.go0 rfl rfl <| wg H 1 rfl rfl rfl rfl <| us 1 rfl <| WO.go0 rfl rfl <| wg H 0 rfl rfl rfl rfl <| us 2 rfl <| WO.nil ?_
 exact kf H
 rintro σ S e ⟨hk, H, rfl⟩
 refine WO.of_known hk <| w (.bool (y28 && (a0.RDN == a1.RDN))) rfl rfl ?_
 refine WO.split 6 (SH H [(2, (.ptr i1 0)), (3, (.ptr i2 0)), (93, (.bool ((y28 && (a0.RDN == a1.RDN)) && (a0.DelOld == a1.DelOld))))]) ?_ ?_
 revert H
 cases hc32 : (y28 && (a0.RDN == a1.RDN))
 intro H
 refine us 6 rfl <| WO.nil ?_
 exact kf H
 intro H
 refine us 1 rfl <| WO.go0 rfl rfl <| wg H 1 rfl rfl rfl rfl <| us 1 rfl <| WO.go0 rfl rfl <| wg H 0 rfl rfl rfl rfl <| us 2 rfl <| WO.nil ?_
 exact kf H
 rintro σ S e ⟨hk, H, rfl⟩
 refine WO.of_known hk <| w (.bool ((y28 && (a0.RDN == a1.RDN)) && (a0.DelOld == a1.DelOld))) rfl rfl ?_
 refine WO.split 6 (SH H [(2, (.ptr i1 0)), (3, (.ptr i2 0)), (100, (.bool (((y28 && (a0.RDN == a1.RDN)) && (a0.DelOld == a1.DelOld)) && (a0.HasSup == a1.HasSup))))]) ?_ ?_
 revert H
 cases hc33 : ((y28 && (a0.RDN == a1.RDN)) && (a0.DelOld == a1.DelOld))
 intro H
 refine us 6 rfl <| WO.nil ?_
 exact kf H
 intro H
 refine us 1 rfl <| WO.go0 rfl rfl <| wg H 1 rfl rfl rfl rfl <| us 1 rfl <| WO.go0 rfl rfl <| wg H 0 rfl rfl rfl rfl <| us 2 rfl <| WO.nil ?_
 exact kf H
 rintro σ S e ⟨hk, H, rfl⟩
 refine WO.of_known hk <| w (.bool (((y28 && (a0.RDN == a1.RDN)) && (a0.DelOld == a1.DelOld)) && (a0.HasSup == a1.HasSup))) rfl rfl ?_
 refine WO.split 6 (SH H [(2, (.ptr i1 0)), (3, (.ptr i2 0)), (107, (.bool ((((y28 && (a0.RDN == a1.RDN)) && (a0.DelOld == a1.DelOld)) && (a0.HasSup == a1.HasSup)) && (a0.Sup == a1.Sup))))]) ?_ ?_
 revert H
 cases hc34 : (((y28 && (a0.RDN == a1.RDN)) && (a0.DelOld == a1.DelOld)) && (a0.HasSup == a1.HasSup))
 intro H
 refine us 6 rfl <| WO.nil ?_
 exact kf H
 intro H
 refine us 1 rfl <| WO.go0 rfl rfl <| wg H 1 rfl rfl rfl rfl <| us 1 rfl <| WO.go0 rfl rfl <| wg H 0 rfl rfl rfl rfl <| us 2 rfl <| WO.nil ?_
 exact kf H
 rintro σ S e ⟨hk, H, rfl⟩
 refine WO.of_known hk <| w (.bool ((((y28 && (a0.RDN == a1.RDN)) && (a0.DelOld == a1.DelOld)) && (a0.HasSup == a1.HasSup)) && (a0.Sup == a1.Sup))) rfl rfl ?_
 refine WO.split 6 (SH H [(2, (.ptr i1 0)), (3, (.ptr i2 0)), (114, (.bool (((((y28 && (a0.RDN == a1.RDN)) && (a0.DelOld == a1.DelOld)) && (a0.HasSup == a1.HasSup)) && (a0.Sup == a1.Sup)) && (a0.Attr == a1.Attr))))]) ?_ ?_
 revert H
 cases hc35 : ((((y28 && (a0.RDN == a1.RDN)) && (a0.DelOld == a1.DelOld)) && (a0.HasSup == a1.HasSup)) && (a0.Sup == a1.Sup))
 intro H
 refine us 6 rfl <| WO.nil ?_
 exact kf H
 intro H
 refine us 1 rfl <| WO.go0 rfl rfl <| wg H 1 rfl rfl rfl rfl <| us 1 rfl <| WO.go0 rfl rfl <| wg H 0 rfl rfl rfl rfl <| us 2 rfl <| WO.nil ?_
 exact kf H
 rintro σ S e ⟨hk, H, rfl⟩
 refine WO.of_known hk <| w (.bool (((((y28 && (a0.RDN == a1.RDN)) && (a0.DelOld == a1.DelOld)) && (a0.HasSup == a1.HasSup)) && (a0.Sup == a1.Sup)) && (a0.Attr == a1.Attr))) rfl rfl ?_
 refine WO.split 6 (SH H [(2, (.ptr i1 0)), (3, (.ptr i2 0)), (121, (.bool ((((((y28 && (a0.RDN == a1.RDN)) && (a0.DelOld == a1.DelOld)) && (a0.HasSup == a1.HasSup)) && (a0.Sup == a1.Sup)) && (a0.Attr == a1.Attr)) && (a0.Value == a1.Value))))]) ?_ ?_
 revert H
 cases hc36 : (((((y28 && (a0.RDN == a1.RDN)) && (a0.DelOld == a1.DelOld)) && (a0.HasSup == a1.HasSup)) && (a0.Sup == a1.Sup)) && (a0.Attr == a1.Attr))
 intro H
 refine us 6 rfl <| WO.nil ?_
 exact kf H
 intro H
 refine us 1 rfl <| WO.go0 rfl rfl <| wg H 1 rfl rfl rfl rfl <| us 1 rfl <| WO.go0 rfl rfl <| wg H 0 rfl rfl rfl rfl <| us 2 rfl <| WO.nil ?_
 exact kf H
 rintro σ S e ⟨hk, H, rfl⟩
 refine WO.of_known hk <| w (.bool ((((((y28 && (a0.RDN == a1.RDN)) && (a0.DelOld == a1.DelOld)) && (a0.HasSup == a1.HasSup)) && (a0.Sup == a1.Sup)) && (a0.Attr == a1.Attr)) && (a0.Value == a1.Value))) rfl rfl ?_
 refine WO.split 6 (SH H [(2, (.ptr i1 0)), (3, (.ptr i2 0)), (128, (.bool (((((((y28 && (a0.RDN == a1.RDN)) && (a0.DelOld == a1.DelOld)) && (a0.HasSup == a1.HasSup)) && (a0.Sup == a1.Sup)) && (a0.Attr == a1.Attr)) && (a0.Value == a1.Value)) && (a0.Code == a1.Code))))]) ?_ ?_
 revert H
 cases hc37 : ((((((y28 && (a0.RDN == a1.RDN)) && (a0.DelOld == a1.DelOld)) && (a0.HasSup == a1.HasSup)) && (a0.Sup == a1.Sup)) && (a0.Attr == a1.Attr)) && (a0.Value == a1.Value))
 intro H
 refine us 6 rfl <| WO.nil ?_
 exact kf H
 intro H
 refine us 1 rfl <| WO.go0 rfl rfl <| wg H 1 rfl rfl rfl rfl <| us 1 rfl <| WO.go0 rfl rfl <| wg H 0 rfl rfl rfl rfl <| us 2 rfl <| WO.nil ?_
 exact kf H
 rintro σ S e ⟨hk, H, rfl⟩
 refine WO.of_known hk <| w (.bool (((((((y28 && (a0.RDN == a1.RDN)) && (a0.DelOld == a1.DelOld)) && (a0.HasSup == a1.HasSup)) && (a0.Sup == a1.Sup)) && (a0.Attr == a1.Attr)) && (a0.Value == a1.Value)) && (a0.Code == a1.Code))) rfl rfl ?_
 refine WO.split 6 (SH H [(135, (.bool ((((((((y28 && (a0.RDN == a1.RDN)) && (a0.DelOld == a1.DelOld)) && (a0.HasSup == a1.HasSup)) && (a0.Sup == a1.Sup)) && (a0.Attr == a1.Attr)) && (a0.Value == a1.Value)) && (a0.Code == a1.Code)) && (a0.Matched == a1.Matched))))]) ?_ ?_
 revert H
 cases hc38 : (((((((y28 && (a0.RDN == a1.RDN)) && (a0.DelOld == a1.DelOld)) && (a0.HasSup == a1.HasSup)) && (a0.Sup == a1.Sup)) && (a0.Attr == a1.Attr)) && (a0.Value == a1.Value)) && (a0.Code == a1.Code))
 intro H
 refine us 6 rfl <| WO.nil ?_
 exact kf H
 intro H
 refine us 1 rfl <| WO.go0 rfl rfl <| wg H 1 rfl rfl rfl rfl <| us 1 rfl <| WO.go0 rfl rfl <| wg H 0 rfl rfl rfl rfl <| us 2 rfl <| WO.nil ?_
 exact kf H
 rintro σ S e ⟨hk, H, rfl⟩
 refine WO.of_known hk <| us 1 rfl <| WO.nil <| WC.ret ?_
 have h := oi h; subst h
 exact kr (.bool ((((((((y28 && (a0.RDN == a1.RDN)) && (a0.DelOld == a1.DelOld)) && (a0.HasSup == a1.HasSup)) && (a0.Sup == a1.Sup)) && (a0.Attr == a1.Attr)) && (a0.Value == a1.Value)) && (a0.Code == a1.Code)) && (a0.Matched == a1.Matched))) rfl rfl rfl
end Go.Proofs.YtbinlabnilidiaaDoor.M
