/- Part of the proof: the runs of functions on the abstract machine. -/
import Derived.Test.YtbinlabnilidiaaGreatDoorPamM3
import Derived.Test.YtbinlabnilidiaaGreatDoorFns
import Derived.Test.YtbinlabnilidiaaGreatDoorMDe
import Derived.Test.YtbinlabnilidiaaGreatDoorMDc
import Derived.Test.YtbinlabnilidiaaGreatDoorMDc1
namespace Go.Proofs.YtbinlabnilidiaaGreatDoor.M
open Go Go.Pam Go.RowKit Go.WideShapes
set_option maxRecDepth 8000
set_option linter.unusedVariables false
set_option linter.unusedSimpArgs false

def F42_L0 (rc0 : Api_Filter → Api_Filter → Option Bool) (k : Nat) (a34 : Api_Filter) (a35 : Api_Filter) : Nat → Int → Option (Out Bool Int)
 | 0, _ => none
 | n + 1, x33 =>
  if decide (x33 < (Sl.len a35.Subs)) then
  Option.bind (Sl.at? a35.Subs x33) fun y41 =>
  Option.bind (Sl.at? a34.Subs x33) fun y42 =>
  if !(y41 == y42) then
  some (Out.ret false)
  else
  F42_L0 rc0 k a34 a35 n (ad .i64 x33 1)
  else
  some (Out.brk x33)
def F42_L2 (rc0 : Api_Filter → Api_Filter → Option Bool) (k : Nat) (a77 : Api_Filter) (a78 : Api_Filter) : Nat → Int → Option (Out Bool Int)
 | 0, _ => none
 | n + 1, x76 =>
  if decide (x76 < (Sl.len a78.Kids)) then
  Option.bind (Sl.at? a78.Kids x76) fun y85 =>
  Option.bind (Sl.at? a77.Kids x76) fun y86 =>
  Option.bind (rc0 y85 y86) fun y87 =>
  if !y87 then
  some (Out.ret false)
  else
  F42_L2 rc0 k a77 a78 n (ad .i64 x76 1)
  else
  some (Out.brk x76)
def F42 : Nat → Api_Filter → Api_Filter → Option Bool
 | 0, _, _ => none
 | k + 1, a0, a1 =>
  if ((((a0.Kind != a1.Kind) || (!(a0.Attr == a1.Attr))) || (!(a0.Value == a1.Value))) || ((Sl.len a0.Subs) != (Sl.len a1.Subs))) || ((Sl.len a0.Kids) != (Sl.len a1.Kids)) then
  some false
  else
  Option.bind (F42_L0 (F42 k) k a1 a0 k 0) fun y46 =>
  match y46 with
  | .ret y46r => some y46r
  | .brk y46b =>
  Option.bind (F42_L2 (F42 k) k a1 a0 k 0) fun y91 =>
  match y91 with
  | .ret y91r => some y91r
  | .brk y91b =>
  some true
theorem l42_L0 {rc0 : Api_Filter → Api_Filter → Option Bool} (hrc0 : ∀ {a0 : Api_Filter} {a1 : Api_Filter} {r : Bool}, rc0 a0 a1 = some r → Q 42 [(.agg (c_Api_Filter a0)), (.agg (c_Api_Filter a1))] (.bool r)) {k : Nat} {a34 : Api_Filter} {a35 : Api_Filter} {S0 : List SObj} {R : List Nat} {K : KX} {i2 : Nat} {i1 : Nat} (hi2 : S0.length ≤ i2) (hi1 : S0.length ≤ i1)  {o : Out Bool Int}
  (hret : ∀ r : Bool, o = .ret r → EK [(4, (.bool r))] S0 R [] [] [] (K .ret))
  (hbrk : ∀ y : Int, o = .brk y → EK [(2, (.ptr i1 0)), (3, (.ptr i2 0))] S0 R [(i2, .cells (c_Api_Filter a34)), (i1, .cells (c_Api_Filter a35))] [] [] (K (.exit 0))) :
  ∀ {n : Nat} {x33 : Int}, F42_L0 rc0 k a34 a35 n x33 = some o → ∀ {σ : Nat → PV} {S : List SObj}, Known [(2, (.ptr i1 0)), (3, (.ptr i2 0)), (5, (.int .i64 x33))] σ → Hp S0 R S [(i2, .cells (c_Api_Filter a34)), (i1, .cells (c_Api_Filter a35))] [] [] → WC env ⟨81, S0.length⟩ (.loop pc42L0) σ S false K := by
 intro n
 induction n with
 | zero => intro _ h; cases h
 | succ n ih =>
  intro x33 h σ S  hk H
  rw [F42_L0] at h
  refine WC.loop <| WC.of_known hk <| WC.seq <| WC.seqR <| us 2 rfl <| wg H 1 rfl rfl rfl rfl <| wl rfl rfl rfl <| us 1 rfl <| WO.nil ?_
  rcases iteS h with ⟨hc45, h⟩ | ⟨hc45, h⟩
  refine WC.condT rfl hc45 <| WC.skip <| KX.seq_n <| WC.seq <| WC.block <| WC.seq <| WC.draw <| wh (.ptr i1 3) rfl rfl <| WH.step (v := (encSl eS a35.Subs)) rfl (nz rfl (stp_load rfl (H.get 1 rfl) rfl)) rfl rfl <| wh (.int .i64 x33) rfl rfl ?_
  obtain ⟨y41, hy41, h⟩ := bindS h
  refine WH.step (v := (.iptr [(.str y41)] 0)) rfl (nz rfl (stp_idxAddr rfl (isSl_enc _ _) rfl rfl rfl hy41 rfl rfl)) rfl rfl <| wh (.str y41) rfl rfl <| wh (.ptr i2 3) rfl rfl <| WH.step (v := (encSl eS a34.Subs)) rfl (nz rfl (stp_load rfl (H.get 0 rfl) rfl)) rfl rfl <| wh (.int .i64 x33) rfl rfl ?_
  obtain ⟨y42, hy42, h⟩ := bindS h
  refine WH.step (v := (.iptr [(.str y42)] 0)) rfl (nz rfl (stp_idxAddr rfl (isSl_enc _ _) rfl rfl rfl hy42 rfl rfl)) rfl rfl <| wh (.str y42) rfl rfl <| WH.nil <| us 1 rfl <| WO.nil <| KX.seq_n ?_
  rcases iteS h with ⟨hc44, h⟩ | ⟨hc44, h⟩
  refine WC.condT rfl hc44 <| WC.seqR <| us 1 rfl <| WO.nil <| WC.ret <| KX.block_r <| KX.seq_r <| KX.seq_r ?_
  have h := oi h; subst h
  exact hret _ rfl kn (H.sub (.cons _ (.cons _ .slnil)) .slnil .slnil)
  refine WC.condF rfl hc44 <| WC.skip <| KX.block_n <| KX.seq_n <| WC.region <| us 3 rfl <| WO.nil <| KX.seq_n ?_
  exact ih h  kn (hs H)
  refine WC.condF rfl hc45 <| WC.exit <| KX.seq_x <| KX.seq_x ?_
  have h := oi h; subst h
  exact hbrk _ rfl  kn (hs H)
theorem l42_L2 {rc0 : Api_Filter → Api_Filter → Option Bool} (hrc0 : ∀ {a0 : Api_Filter} {a1 : Api_Filter} {r : Bool}, rc0 a0 a1 = some r → Q 42 [(.agg (c_Api_Filter a0)), (.agg (c_Api_Filter a1))] (.bool r)) {k : Nat} {a77 : Api_Filter} {a78 : Api_Filter} {S0 : List SObj} {R : List Nat} {K : KX} {i2 : Nat} {i1 : Nat} (hi2 : S0.length ≤ i2) (hi1 : S0.length ≤ i1)  {o : Out Bool Int}
  (hret : ∀ r : Bool, o = .ret r → EK [(4, (.bool r))] S0 R [] [] [] (K .ret))
  (hbrk : ∀ y : Int, o = .brk y → EK [] S0 R [(i2, .cells (c_Api_Filter a77)), (i1, .cells (c_Api_Filter a78))] [] [] (K (.exit 2))) :
  ∀ {n : Nat} {x76 : Int}, F42_L2 rc0 k a77 a78 n x76 = some o → ∀ {σ : Nat → PV} {S : List SObj}, Known [(2, (.ptr i1 0)), (3, (.ptr i2 0)), (6, (.int .i64 x76))] σ → Hp S0 R S [(i2, .cells (c_Api_Filter a77)), (i1, .cells (c_Api_Filter a78))] [] [] → WC env ⟨81, S0.length⟩ (.loop pc42L2) σ S false K := by
 intro n
 induction n with
 | zero => intro _ h; cases h
 | succ n ih =>
  intro x76 h σ S  hk H
  rw [F42_L2] at h
  refine WC.loop <| WC.of_known hk <| WC.seq <| WC.seqR <| us 2 rfl <| wg H 1 rfl rfl rfl rfl <| wl rfl rfl rfl <| us 1 rfl <| WO.nil ?_
  rcases iteS h with ⟨hc90, h⟩ | ⟨hc90, h⟩
  refine WC.condT rfl hc90 <| WC.skip <| KX.seq_n <| WC.seq <| WC.block <| WC.seq <| WC.draw <| wh (.ptr i1 4) rfl rfl <| WH.step (v := (encSl e_Api_Filter a78.Kids)) rfl (nz rfl (stp_load rfl (H.get 1 rfl) rfl)) rfl rfl <| wh (.int .i64 x76) rfl rfl ?_
  obtain ⟨y85, hy85, h⟩ := bindS h
  refine WH.step (v := (.iptr (c_Api_Filter y85) 0)) rfl (nz rfl (stp_idxAddr rfl (isSl_enc _ _) rfl rfl rfl hy85 (e_Api_Filter_cells _) rfl)) rfl rfl <| wh (.agg (c_Api_Filter y85)) rfl rfl <| wh (.ptr i2 4) rfl rfl <| WH.step (v := (encSl e_Api_Filter a77.Kids)) rfl (nz rfl (stp_load rfl (H.get 0 rfl) rfl)) rfl rfl <| wh (.int .i64 x76) rfl rfl ?_
  obtain ⟨y86, hy86, h⟩ := bindS h
  refine WH.step (v := (.iptr (c_Api_Filter y86) 0)) rfl (nz rfl (stp_idxAddr rfl (isSl_enc _ _) rfl rfl rfl hy86 (e_Api_Filter_cells _) rfl)) rfl rfl <| wh (.agg (c_Api_Filter y86)) rfl rfl <| WH.nil ?_
  obtain ⟨y87, hy87, h⟩ := bindS h
  refine cl (.bool y87) [(.agg (c_Api_Filter y85)), (.agg (c_Api_Filter y86))] rfl rfl rfl rfl (sv (hrc0 hy87)) <| us 1 rfl <| WO.nil <| KX.seq_n ?_
  rcases iteS h with ⟨hc89, h⟩ | ⟨hc89, h⟩
  refine WC.condT rfl hc89 <| WC.seqR <| us 1 rfl <| WO.nil <| WC.ret <| KX.block_r <| KX.seq_r <| KX.seq_r ?_
  have h := oi h; subst h
  exact hret _ rfl kn (H.sub (.cons _ (.cons _ .slnil)) .slnil .slnil)
  refine WC.condF rfl hc89 <| WC.skip <| KX.block_n <| KX.seq_n <| WC.region <| us 3 rfl <| WO.nil <| KX.seq_n ?_
  exact ih h  kn (hs H)
  refine WC.condF rfl hc90 <| WC.exit <| KX.seq_x <| KX.seq_x ?_
  have h := oi h; subst h
  exact hbrk _ rfl  known_nil (hs H)
theorem s42 : ∀ k : Nat, ∀ {a0 : Api_Filter} {a1 : Api_Filter} {r : Bool}, F42 k a0 a1 = some r → Q 42 [(.agg (c_Api_Filter a0)), (.agg (c_Api_Filter a1))] (.bool r) := by
 intro k
 induction k with
 | zero => intro _ _ r h; cases h
 | succ k ih =>
  intro a0 a1 r h
  rw [F42] at h
  refine Qe.go (pf := fn42) rfl rfl (Nat.le_of_ble_eq_true rfl) (by simp [PV.clean, cleanL, clean_encSl clean_Api_Filter, clean_encSl clean_eS]) rfl rfl fun H => ?_
  refine WC.seqR <| WO.box' rfl rfl rfl rfl rfl H ?_
  intro i1 S hi1 H
  refine WO.box' rfl rfl rfl rfl rfl H ?_
  intro i2 S hi2 H
  refine us 1 rfl <| WO.nil <| WC.seq <| WC.seqR <| us 1 rfl <| wg H 1 rfl rfl rfl rfl <| us 1 rfl <| wg H 0 rfl rfl rfl rfl <| w (.bool (a0.Kind != a1.Kind)) rfl rfl <| w (.bool (a0.Kind != a1.Kind)) rfl rfl ?_
  refine WO.split 6 (SH H [(2, (.ptr i1 0)), (3, (.ptr i2 0)), (18, (.bool ((a0.Kind != a1.Kind) || (!(a0.Attr == a1.Attr)))))]) ?_ ?_
  revert H
  cases hc3 : (a0.Kind != a1.Kind)
  intro H
  refine us 1 rfl <| WO.go0 rfl rfl <| wg H 1 rfl rfl rfl rfl <| us 1 rfl <| WO.go0 rfl rfl <| wg H 0 rfl rfl rfl rfl <| us 2 rfl <| WO.nil ?_
  exact kf H
  intro H
  refine us 6 rfl <| WO.nil ?_
  exact kf H
  rintro σ S e ⟨hk, H, rfl⟩
  refine WO.of_known hk <| w (.bool ((a0.Kind != a1.Kind) || (!(a0.Attr == a1.Attr)))) rfl rfl ?_
  refine WO.split 6 (SH H [(2, (.ptr i1 0)), (3, (.ptr i2 0)), (25, (.bool (((a0.Kind != a1.Kind) || (!(a0.Attr == a1.Attr))) || (!(a0.Value == a1.Value)))))]) ?_ ?_
  revert H
  cases hc4 : ((a0.Kind != a1.Kind) || (!(a0.Attr == a1.Attr)))
  intro H
  refine us 1 rfl <| WO.go0 rfl rfl <| wg H 1 rfl rfl rfl rfl <| us 1 rfl <| WO.go0 rfl rfl <| wg H 0 rfl rfl rfl rfl <| us 2 rfl <| WO.nil ?_
  exact kf H
  intro H
  refine us 6 rfl <| WO.nil ?_
  exact kf H
  rintro σ S e ⟨hk, H, rfl⟩
  refine WO.of_known hk <| w (.bool (((a0.Kind != a1.Kind) || (!(a0.Attr == a1.Attr))) || (!(a0.Value == a1.Value)))) rfl rfl ?_
  refine WO.split 8 (SH H [(2, (.ptr i1 0)), (3, (.ptr i2 0)), (34, (.bool ((((a0.Kind != a1.Kind) || (!(a0.Attr == a1.Attr))) || (!(a0.Value == a1.Value))) || ((Sl.len a0.Subs) != (Sl.len a1.Subs)))))]) ?_ ?_
  revert H
  cases hc5 : (((a0.Kind != a1.Kind) || (!(a0.Attr == a1.Attr))) || (!(a0.Value == a1.Value)))
  intro H
  refine us 1 rfl <| WO.go0 rfl rfl <| wg H 1 rfl rfl rfl rfl <| WO.go0 rfl rfl <| wl rfl rfl rfl <| us 1 rfl <| WO.go0 rfl rfl <| wg H 0 rfl rfl rfl rfl <| WO.go0 rfl rfl <| wl rfl rfl rfl <| us 2 rfl <| WO.nil ?_
  exact kf H
  intro H
  refine us 8 rfl <| WO.nil ?_
  exact kf H
  rintro σ S e ⟨hk, H, rfl⟩
  refine WO.of_known hk <| w (.bool ((((a0.Kind != a1.Kind) || (!(a0.Attr == a1.Attr))) || (!(a0.Value == a1.Value))) || ((Sl.len a0.Subs) != (Sl.len a1.Subs)))) rfl rfl ?_
  refine WO.split 8 (SH H [(2, (.ptr i1 0)), (3, (.ptr i2 0)), (43, (.bool (((((a0.Kind != a1.Kind) || (!(a0.Attr == a1.Attr))) || (!(a0.Value == a1.Value))) || ((Sl.len a0.Subs) != (Sl.len a1.Subs))) || ((Sl.len a0.Kids) != (Sl.len a1.Kids)))))]) ?_ ?_
  revert H
  cases hc6 : ((((a0.Kind != a1.Kind) || (!(a0.Attr == a1.Attr))) || (!(a0.Value == a1.Value))) || ((Sl.len a0.Subs) != (Sl.len a1.Subs)))
  intro H
  refine us 1 rfl <| WO.go0 rfl rfl <| wg H 1 rfl rfl rfl rfl <| WO.go0 rfl rfl <| wl rfl rfl rfl <| us 1 rfl <| WO.go0 rfl rfl <| wg H 0 rfl rfl rfl rfl <| WO.go0 rfl rfl <| wl rfl rfl rfl <| us 2 rfl <| WO.nil ?_
  exact kf H
  intro H
  refine us 8 rfl <| WO.nil ?_
  exact kf H
  rintro σ S e ⟨hk, H, rfl⟩
  refine WO.of_known hk <| WO.nil ?_
  rcases iteS h with ⟨hc92, h⟩ | ⟨hc92, h⟩
  refine WC.condT rfl hc92 <| WC.seqR <| us 1 rfl <| WO.nil <| WC.ret <| KX.seq_r ?_
  have h := oi h; subst h
  exact kr (.bool false) rfl rfl rfl
  refine WC.condF rfl hc92 <| WC.skip <| KX.seq_n <| WC.seq <| WC.seqR <| us 1 rfl <| WO.nil ?_
  obtain ⟨y46, hy46, hOy46⟩ := bindS h
  refine WC.block ?_
  refine l42_L0 ih hi2 hi1 ?_ ?_ hy46  kn (hs H)
  intro y46r he σ S  hk H; subst he; replace h := hOy46; dsimp only at h
  refine KX.of_known hk <| KX.block_r <| KX.seq_r ?_
  have h := oi h; subst h
  exact kr (.bool y46r) rfl rfl rfl
  intro y46b he σ S  hk H; subst he; replace h := hOy46; dsimp only at h
  refine KX.of_known hk <| KX.block_x <| KX.seq_n <| WC.seq <| WC.seqR <| us 1 rfl <| WO.nil ?_
  obtain ⟨y91, hy91, hOy91⟩ := bindS h
  refine WC.block ?_
  refine l42_L2 ih hi2 hi1 ?_ ?_ hy91  kn (hs H)
  intro y91r he σ S  hk H; subst he; replace h := hOy91; dsimp only at h
  refine KX.of_known hk <| KX.block_r <| KX.seq_r ?_
  have h := oi h; subst h
  exact kr (.bool y91r) rfl rfl rfl
  intro y91b he σ S  hk H; subst he; replace h := hOy91; dsimp only at h
  refine KX.of_known hk <| KX.block_x <| KX.seq_n <| WC.seqR <| us 1 rfl <| WO.nil <| WC.ret ?_
  have h := oi h; subst h
  exact kr (.bool true) rfl rfl rfl
def F43_L0 (k : Nat) (a27 : Sl Str) (a28 : Sl Str) : Nat → Int → Option (Out Bool Int)
 | 0, _ => none
 | n + 1, x29 =>
  if decide (x29 < (Sl.len a27)) then
  Option.bind (Sl.at? a27 x29) fun y35 =>
  Option.bind (Sl.at? a28 x29) fun y36 =>
  if !(y35 == y36) then
  some (Out.ret false)
  else
  F43_L0 k a27 a28 n (ad .i64 x29 1)
  else
  some (Out.brk x29)
def F43 (k : Nat) (a0 : Sl Str) (a1 : Sl Str) : Option Bool :=
 if (Sl.len a0) != (Sl.len a1) then
 some false
 else
 Option.bind (F43_L0 k a0 a1 k 0) fun y40 =>
 match y40 with
 | .ret y40r => some y40r
 | .brk y40b =>
 some true
theorem l43_L0 {k : Nat} {a27 : Sl Str} {a28 : Sl Str} {S0 : List SObj} {R : List Nat} {K : KX}  {o : Out Bool Int}
  (hret : ∀ r : Bool, o = .ret r → EK [(4, (.bool r))] S0 R [] [] [] (K .ret))
  (hbrk : ∀ y : Int, o = .brk y → EK [] S0 R [] [] [] (K (.exit 0))) :
  ∀ {n : Nat} {x29 : Int}, F43_L0 k a27 a28 n x29 = some o → ∀ {σ : Nat → PV} {S : List SObj}, Known [(0, (encSl eS a27)), (1, (encSl eS a28)), (5, (.int .i64 x29))] σ → Hp S0 R S [] [] [] → WC env ⟨26, S0.length⟩ (.loop pc43L0) σ S false K := by
 intro n
 induction n with
 | zero => intro _ h; cases h
 | succ n ih =>
  intro x29 h σ S  hk H
  rw [F43_L0] at h
  refine WC.loop <| WC.of_known hk <| WC.seq <| WC.seqR <| us 2 rfl <| wl rfl rfl rfl <| us 1 rfl <| WO.nil ?_
  rcases iteS h with ⟨hc39, h⟩ | ⟨hc39, h⟩
  refine WC.condT rfl hc39 <| WC.skip <| KX.seq_n <| WC.seq <| WC.block <| WC.seq <| WC.draw <| wh (encSl eS a27) rfl rfl <| wh (.int .i64 x29) rfl rfl ?_
  obtain ⟨y35, hy35, h⟩ := bindS h
  refine WH.step (v := (.iptr [(.str y35)] 0)) rfl (nz rfl (stp_idxAddr rfl (isSl_enc _ _) rfl rfl rfl hy35 rfl rfl)) rfl rfl <| wh (.str y35) rfl rfl <| wh (encSl eS a28) rfl rfl <| wh (.int .i64 x29) rfl rfl ?_
  obtain ⟨y36, hy36, h⟩ := bindS h
  refine WH.step (v := (.iptr [(.str y36)] 0)) rfl (nz rfl (stp_idxAddr rfl (isSl_enc _ _) rfl rfl rfl hy36 rfl rfl)) rfl rfl <| wh (.str y36) rfl rfl <| WH.nil <| us 1 rfl <| WO.nil <| KX.seq_n ?_
  rcases iteS h with ⟨hc38, h⟩ | ⟨hc38, h⟩
  refine WC.condT rfl hc38 <| WC.seqR <| us 1 rfl <| WO.nil <| WC.ret <| KX.block_r <| KX.seq_r <| KX.seq_r ?_
  have h := oi h; subst h
  exact hret _ rfl kn (hs H)
  refine WC.condF rfl hc38 <| WC.skip <| KX.block_n <| KX.seq_n <| WC.region <| us 3 rfl <| WO.nil <| KX.seq_n ?_
  exact ih h  kn (hs H)
  refine WC.condF rfl hc39 <| WC.exit <| KX.seq_x <| KX.seq_x ?_
  have h := oi h; subst h
  exact hbrk _ rfl  known_nil (hs H)
theorem s43 : ∀ k : Nat, ∀ {a0 : Sl Str} {a1 : Sl Str} {r : Bool}, F43 k a0 a1 = some r → Q 43 [(encSl eS a0), (encSl eS a1)] (.bool r) := by
 intro k a0 a1 r h
 unfold F43 at h
 refine Qe.go (pf := fn43) rfl rfl (Nat.le_of_ble_eq_true rfl) (by simp [PV.clean, cleanL, clean_encSl clean_eS]) rfl rfl fun H => ?_
 refine WC.seqR <| us 1 rfl <| WO.nil <| WC.seq <| WC.seqR <| us 1 rfl <| wl rfl rfl rfl <| us 1 rfl <| wl rfl rfl rfl <| us 1 rfl <| WO.nil ?_
 rcases iteS h with ⟨hc41, h⟩ | ⟨hc41, h⟩
 refine WC.condT rfl hc41 <| WC.seqR <| us 1 rfl <| WO.nil <| WC.ret <| KX.seq_r ?_
 have h := oi h; subst h
 exact kr (.bool false) rfl rfl rfl
 refine WC.condF rfl hc41 <| WC.skip <| KX.seq_n <| WC.seq <| WC.seqR <| us 1 rfl <| WO.nil ?_
 obtain ⟨y40, hy40, hOy40⟩ := bindS h
 refine WC.block ?_
 refine l43_L0 ?_ ?_ hy40  kn (hs H)
 intro y40r he σ S  hk H; subst he; replace h := hOy40; dsimp only at h
 refine KX.of_known hk <| KX.block_r <| KX.seq_r ?_
 have h := oi h; subst h
 exact kr (.bool y40r) rfl rfl rfl
 intro y40b he σ S  hk H; subst he; replace h := hOy40; dsimp only at h
 refine KX.of_known hk <| KX.block_x <| KX.seq_n <| WC.seqR <| us 1 rfl <| WO.nil <| WC.ret ?_
 have h := oi h; subst h
 exact kr (.bool true) rfl rfl rfl
def F44_L0 (k : Nat) (a107 : Sl Api_Mod) (a108 : Sl Api_Mod) : Nat → Int → Option (Out Bool Int)
 | 0, _ => none
 | n + 1, x109 =>
  if decide (x109 < (Sl.len a107)) then
  Option.bind (Sl.at? a107 x109) fun y135 =>
  Option.bind (Sl.at? a108 x109) fun y136 =>
  Option.bind (if y135.Kind != y136.Kind then
  some true
  else
  Option.bind (Sl.at? a107 x109) fun y145 =>
  Option.bind (Sl.at? a108 x109) fun y146 =>
  some (!(y145.Attr == y146.Attr))) fun y144 =>
  Option.bind (if y144 then
  some true
  else
  Option.bind (Sl.at? a107 x109) fun y153 =>
  Option.bind (Sl.at? a108 x109) fun y154 =>
  Option.bind (F43 k y153.Values y154.Values) fun y155 =>
  some (!y155)) fun y152 =>
  if y152 then
  some (Out.ret false)
  else
  F44_L0 k a107 a108 n (ad .i64 x109 1)
  else
  some (Out.brk x109)
def F44 (k : Nat) (a0 : Sl Api_Mod) (a1 : Sl Api_Mod) : Option Bool :=
 if (Sl.len a0) != (Sl.len a1) then
 some false
 else
 Option.bind (F44_L0 k a0 a1 k 0) fun y160 =>
 match y160 with
 | .ret y160r => some y160r
 | .brk y160b =>
 some true
theorem l44_L0 {k : Nat} {a107 : Sl Api_Mod} {a108 : Sl Api_Mod} {S0 : List SObj} {R : List Nat} {K : KX}  {o : Out Bool Int}
  (hret : ∀ r : Bool, o = .ret r → EK [(4, (.bool r))] S0 R [] [] [] (K .ret))
  (hbrk : ∀ y : Int, o = .brk y → EK [] S0 R [] [] [] (K (.exit 0))) :
  ∀ {n : Nat} {x109 : Int}, F44_L0 k a107 a108 n x109 = some o → ∀ {σ : Nat → PV} {S : List SObj}, Known [(0, (encSl e_Api_Mod a107)), (1, (encSl e_Api_Mod a108)), (5, (.int .i64 x109))] σ → Hp S0 R S [] [] [] → WC env ⟨55, S0.length⟩ (.loop pc44L0) σ S false K := by
 intro n
 induction n with
 | zero => intro _ h; cases h
 | succ n ih =>
  intro x109 h σ S  hk H
  rw [F44_L0] at h
  refine WC.loop <| WC.of_known hk <| WC.seq <| WC.seqR <| us 2 rfl <| wl rfl rfl rfl <| us 1 rfl <| WO.nil ?_
  rcases iteS h with ⟨hc159, h⟩ | ⟨hc159, h⟩
  refine WC.condT rfl hc159 <| WC.skip <| KX.seq_n <| WC.seq <| WC.block <| WC.seq <| WC.draw <| wh (encSl e_Api_Mod a107) rfl rfl <| wh (.int .i64 x109) rfl rfl ?_
  obtain ⟨y135, hy135, h⟩ := bindS h
  refine WH.step (v := (.iptr (c_Api_Mod y135) 0)) rfl (nz rfl (stp_idxAddr rfl (isSl_enc _ _) rfl rfl rfl hy135 (e_Api_Mod_cells _) rfl)) rfl rfl <| wh (.iptr (c_Api_Mod y135) 0) rfl rfl <| wh (.int .i64 y135.Kind) rfl rfl <| wh (encSl e_Api_Mod a108) rfl rfl <| wh (.int .i64 x109) rfl rfl ?_
  obtain ⟨y136, hy136, h⟩ := bindS h
  refine WH.step (v := (.iptr (c_Api_Mod y136) 0)) rfl (nz rfl (stp_idxAddr rfl (isSl_enc _ _) rfl rfl rfl hy136 (e_Api_Mod_cells _) rfl)) rfl rfl <| wh (.iptr (c_Api_Mod y136) 0) rfl rfl <| wh (.int .i64 y136.Kind) rfl rfl <| wh (.bool (y135.Kind != y136.Kind)) rfl rfl <| wh (.bool (y135.Kind != y136.Kind)) rfl rfl ?_
  obtain ⟨y144, hy144, hOy144⟩ := bindS h
  refine WH.split 12 (fun σ' => Known ([(0, (encSl e_Api_Mod a107)), (1, (encSl e_Api_Mod a108)), (5, (.int .i64 x109)), (40, (.bool y144))]) σ') ?_ ?_
  replace h := hy144
  revert H
  cases hc147 : (y135.Kind != y136.Kind)
  intro H
  replace h := iteF h hc147
  refine WH.go0 rfl rfl <| wh (encSl e_Api_Mod a107) rfl rfl <| WH.go0 rfl rfl <| wh (.int .i64 x109) rfl rfl <| WH.go0 rfl rfl ?_
  obtain ⟨y145, hy145, h⟩ := bindS h
  refine WH.step (v := (.iptr (c_Api_Mod y145) 0)) rfl (nz rfl (stp_idxAddr rfl (isSl_enc _ _) rfl rfl rfl hy145 (e_Api_Mod_cells _) rfl)) rfl rfl <| WH.go0 rfl rfl <| wh (.iptr (c_Api_Mod y145) 1) rfl rfl <| WH.go0 rfl rfl <| wh (.str y145.Attr) rfl rfl <| WH.go0 rfl rfl <| wh (encSl e_Api_Mod a108) rfl rfl <| WH.go0 rfl rfl <| wh (.int .i64 x109) rfl rfl <| WH.go0 rfl rfl ?_
  obtain ⟨y146, hy146, h⟩ := bindS h
  refine WH.step (v := (.iptr (c_Api_Mod y146) 0)) rfl (nz rfl (stp_idxAddr rfl (isSl_enc _ _) rfl rfl rfl hy146 (e_Api_Mod_cells _) rfl)) rfl rfl <| WH.go0 rfl rfl <| wh (.iptr (c_Api_Mod y146) 1) rfl rfl <| WH.go0 rfl rfl <| wh (.str y146.Attr) rfl rfl <| WH.go0 rfl rfl <| WH.step (v := (.bool (!(y145.Attr == y146.Attr)))) rfl (nz rfl rfl) rfl rfl <| WH.step (v := (.bool (!(y145.Attr == y146.Attr)))) rfl (nz rfl rfl) rfl rfl <| WH.nil ?_
  have h := oi h; subst h
  exact kn
  intro H
  replace h := iteT h hc147
  refine WH.by rfl rfl rfl <| WH.by rfl rfl rfl <| WH.by rfl rfl rfl <| WH.by rfl rfl rfl <| WH.by rfl rfl rfl <| WH.by rfl rfl rfl <| WH.by rfl rfl rfl <| WH.by rfl rfl rfl <| WH.by rfl rfl rfl <| WH.by rfl rfl rfl <| WH.by rfl rfl rfl <| wh (.bool true) rfl rfl <| WH.nil ?_
  have h := oi h; subst h
  exact kn
  rintro σ hk
  replace h := hOy144
  refine WH.of_known hk <| wh (.bool y144) rfl rfl ?_
  obtain ⟨y152, hy152, hOy152⟩ := bindS h
  refine WD.split 3 (SJ [(0, (encSl e_Api_Mod a107)), (1, (encSl e_Api_Mod a108)), (5, (.int .i64 x109)), (54, (.bool y152))] S0 R [] [] [] false) ?_ ?_
  replace h := hy152
  revert H
  cases hc156 : y144
  intro H
  replace h := iteF h hc156
  refine WH.go0 rfl rfl <| wh (encSl e_Api_Mod a107) rfl rfl <| WH.go0 rfl rfl <| wh (.int .i64 x109) rfl rfl <| WH.go0 rfl rfl ?_
  obtain ⟨y153, hy153, h⟩ := bindS h
  refine WH.step (v := (.iptr (c_Api_Mod y153) 0)) rfl (nz rfl (stp_idxAddr rfl (isSl_enc _ _) rfl rfl rfl hy153 (e_Api_Mod_cells _) rfl)) rfl rfl <| WH.go0 rfl rfl <| wh (.iptr (c_Api_Mod y153) 2) rfl rfl <| WH.go0 rfl rfl <| wh (encSl eS y153.Values) rfl rfl <| WH.go0 rfl rfl <| wh (encSl e_Api_Mod a108) rfl rfl <| WH.go0 rfl rfl <| wh (.int .i64 x109) rfl rfl <| WH.go0 rfl rfl ?_
  obtain ⟨y154, hy154, h⟩ := bindS h
  refine WH.step (v := (.iptr (c_Api_Mod y154) 0)) rfl (nz rfl (stp_idxAddr rfl (isSl_enc _ _) rfl rfl rfl hy154 (e_Api_Mod_cells _) rfl)) rfl rfl <| WH.go0 rfl rfl <| wh (.iptr (c_Api_Mod y154) 2) rfl rfl <| WH.go0 rfl rfl <| wh (encSl eS y154.Values) rfl rfl <| WH.nil <| WO.go0 rfl rfl ?_
  obtain ⟨y155, hy155, h⟩ := bindS h
  refine cl (.bool y155) [(encSl eS y153.Values), (encSl eS y154.Values)] rfl rfl rfl (fe rfl (fe rfl rfl)) (sv (s43 _ hy155)) <| us 2 rfl <| WO.nil ?_
  have h := oi h; subst h
  exact kh H
  intro H
  replace h := iteT h hc156
  refine WH.by rfl rfl rfl <| WH.by rfl rfl rfl <| WH.by rfl rfl rfl <| WH.by rfl rfl rfl <| WH.by rfl rfl rfl <| WH.by rfl rfl rfl <| WH.by rfl rfl rfl <| WH.by rfl rfl rfl <| WH.by rfl rfl rfl <| WH.by rfl rfl rfl <| WH.nil <| us 3 rfl <| WO.nil ?_
  have h := oi h; subst h
  exact kh H
  rintro σ S e ⟨hk, H, rfl⟩
  replace h := hOy152
  refine WO.of_known hk <| WO.nil <| KX.seq_n ?_
  rcases iteS h with ⟨hc158, h⟩ | ⟨hc158, h⟩
  refine WC.condT rfl hc158 <| WC.seqR <| us 1 rfl <| WO.nil <| WC.ret <| KX.block_r <| KX.seq_r <| KX.seq_r ?_
  have h := oi h; subst h
  exact hret _ rfl kn (hs H)
  refine WC.condF rfl hc158 <| WC.skip <| KX.block_n <| KX.seq_n <| WC.region <| us 3 rfl <| WO.nil <| KX.seq_n ?_
  exact ih h  kn (hs H)
  refine WC.condF rfl hc159 <| WC.exit <| KX.seq_x <| KX.seq_x ?_
  have h := oi h; subst h
  exact hbrk _ rfl  known_nil (hs H)
theorem s44 : ∀ k : Nat, ∀ {a0 : Sl Api_Mod} {a1 : Sl Api_Mod} {r : Bool}, F44 k a0 a1 = some r → Q 44 [(encSl e_Api_Mod a0), (encSl e_Api_Mod a1)] (.bool r) := by
 intro k a0 a1 r h
 unfold F44 at h
 refine Qe.go (pf := fn44) rfl rfl (Nat.le_of_ble_eq_true rfl) (by simp [PV.clean, cleanL, clean_encSl clean_Api_Mod]) rfl rfl fun H => ?_
 refine WC.seqR <| us 1 rfl <| WO.nil <| WC.seq <| WC.seqR <| us 1 rfl <| wl rfl rfl rfl <| us 1 rfl <| wl rfl rfl rfl <| us 1 rfl <| WO.nil ?_
 rcases iteS h with ⟨hc161, h⟩ | ⟨hc161, h⟩
 refine WC.condT rfl hc161 <| WC.seqR <| us 1 rfl <| WO.nil <| WC.ret <| KX.seq_r ?_
 have h := oi h; subst h
 exact kr (.bool false) rfl rfl rfl
 refine WC.condF rfl hc161 <| WC.skip <| KX.seq_n <| WC.seq <| WC.seqR <| us 1 rfl <| WO.nil ?_
 obtain ⟨y160, hy160, hOy160⟩ := bindS h
 refine WC.block ?_
 refine l44_L0 ?_ ?_ hy160  kn (hs H)
 intro y160r he σ S  hk H; subst he; replace h := hOy160; dsimp only at h
 refine KX.of_known hk <| KX.block_r <| KX.seq_r ?_
 have h := oi h; subst h
 exact kr (.bool y160r) rfl rfl rfl
 intro y160b he σ S  hk H; subst he; replace h := hOy160; dsimp only at h
 refine KX.of_known hk <| KX.block_x <| KX.seq_n <| WC.seqR <| us 1 rfl <| WO.nil <| WC.ret ?_
 have h := oi h; subst h
 exact kr (.bool true) rfl rfl rfl
def F14 (k : Nat) (a0 : Api_Msg) (a1 : Api_Msg) : Option Bool :=
 Option.bind (if (((((((a0.ID == a1.ID) && (a0.Op == a1.Op)) && (a0.Of == a1.Of)) && (a0.DN == a1.DN)) && (a0.Version == a1.Version)) && (a0.Pass == a1.Pass)) && (a0.Scope == a1.Scope)) && (a0.Size == a1.Size) then
 Option.bind (F42 k a0.Filter a1.Filter) fun y15 =>
 some y15
 else
 some false) fun y14 =>
 Option.bind (if y14 then
 Option.bind (F43 k a0.Wants a1.Wants) fun y22 =>
 some y22
 else
 some false) fun y21 =>
 Option.bind (if y21 then
 Option.bind (F44 k a0.Mods a1.Mods) fun y29 =>
 some y29
 else
 some false) fun y28 =>
 some ((((((((y28 && (a0.RDN == a1.RDN)) && (a0.DelOld == a1.DelOld)) && (a0.HasSup == a1.HasSup)) && (a0.Sup == a1.Sup)) && (a0.Attr == a1.Attr)) && (a0.Value == a1.Value)) && (a0.Code == a1.Code)) && (a0.Matched == a1.Matched))
theorem s14 : ∀ k : Nat, ∀ {a0 : Api_Msg} {a1 : Api_Msg} {r : Bool}, F14 k a0 a1 = some r → Q 14 [(.agg (c_Api_Msg a0)), (.agg (c_Api_Msg a1))] (.bool r) := by
 intro k a0 a1 r h
 unfold F14 at h
 refine Qe.go (pf := fn14) rfl rfl (Nat.le_of_ble_eq_true rfl) (by simp [PV.clean, cleanL, clean_encSl clean_Api_Filter, clean_encSl clean_Api_Mod, clean_encSl clean_eS]) rfl rfl fun H => ?_
 refine WC.seqR <| WO.box' rfl rfl rfl rfl rfl H ?_
 intro i1 S hi1 H
 refine WO.box' rfl rfl rfl rfl rfl H ?_
 intro i2 S hi2 H
 refine us 1 rfl <| WO.nil <| WC.seqR <| us 1 rfl <| wg H 1 rfl rfl rfl rfl <| us 1 rfl <| wg H 0 rfl rfl rfl rfl <| w (.bool (a0.ID == a1.ID)) rfl rfl <| w (.bool (a0.ID == a1.ID)) rfl rfl ?_
 refine WO.split 6 (SH H [(2, (.ptr i1 0)), (3, (.ptr i2 0)), (16, (.bool ((a0.ID == a1.ID) && (a0.Op == a1.Op))))]) ?_ ?_
 revert H
 cases hc3 : (a0.ID == a1.ID)
 intro H
 refine us 6 rfl <| WO.nil ?_
 exact kf H
 intro H
 refine us 1 rfl <| WO.go0 rfl rfl <| wg H 1 rfl rfl rfl rfl <| us 1 rfl <| WO.go0 rfl rfl <| wg H 0 rfl rfl rfl rfl <| us 2 rfl <| WO.nil ?_
 exact kf H
 rintro σ S e ⟨hk, H, rfl⟩
 refine WO.of_known hk <| w (.bool ((a0.ID == a1.ID) && (a0.Op == a1.Op))) rfl rfl ?_
 refine WO.split 6 (SH H [(2, (.ptr i1 0)), (3, (.ptr i2 0)), (23, (.bool (((a0.ID == a1.ID) && (a0.Op == a1.Op)) && (a0.Of == a1.Of))))]) ?_ ?_
 revert H
 cases hc4 : ((a0.ID == a1.ID) && (a0.Op == a1.Op))
 intro H
 refine us 6 rfl <| WO.nil ?_
 exact kf H
 intro H
 refine us 1 rfl <| WO.go0 rfl rfl <| wg H 1 rfl rfl rfl rfl <| us 1 rfl <| WO.go0 rfl rfl <| wg H 0 rfl rfl rfl rfl <| us 2 rfl <| WO.nil ?_
 exact kf H
 rintro σ S e ⟨hk, H, rfl⟩
 refine WO.of_known hk <| w (.bool (((a0.ID == a1.ID) && (a0.Op == a1.Op)) && (a0.Of == a1.Of))) rfl rfl ?_
 refine WO.split 6 (SH H [(2, (.ptr i1 0)), (3, (.ptr i2 0)), (30, (.bool ((((a0.ID == a1.ID) && (a0.Op == a1.Op)) && (a0.Of == a1.Of)) && (a0.DN == a1.DN))))]) ?_ ?_
 revert H
 cases hc5 : (((a0.ID == a1.ID) && (a0.Op == a1.Op)) && (a0.Of == a1.Of))
 intro H
 refine us 6 rfl <| WO.nil ?_
 exact kf H
 intro H
 refine us 1 rfl <| WO.go0 rfl rfl <| wg H 1 rfl rfl rfl rfl <| us 1 rfl <| WO.go0 rfl rfl <| wg H 0 rfl rfl rfl rfl <| us 2 rfl <| WO.nil ?_
 exact kf H
 rintro σ S e ⟨hk, H, rfl⟩
 refine WO.of_known hk <| w (.bool ((((a0.ID == a1.ID) && (a0.Op == a1.Op)) && (a0.Of == a1.Of)) && (a0.DN == a1.DN))) rfl rfl ?_
 refine WO.split 6 (SH H [(2, (.ptr i1 0)), (3, (.ptr i2 0)), (37, (.bool (((((a0.ID == a1.ID) && (a0.Op == a1.Op)) && (a0.Of == a1.Of)) && (a0.DN == a1.DN)) && (a0.Version == a1.Version))))]) ?_ ?_
 revert H
 cases hc6 : ((((a0.ID == a1.ID) && (a0.Op == a1.Op)) && (a0.Of == a1.Of)) && (a0.DN == a1.DN))
 intro H
 refine us 6 rfl <| WO.nil ?_
 exact kf H
 intro H
 refine us 1 rfl <| WO.go0 rfl rfl <| wg H 1 rfl rfl rfl rfl <| us 1 rfl <| WO.go0 rfl rfl <| wg H 0 rfl rfl rfl rfl <| us 2 rfl <| WO.nil ?_
 exact kf H
 rintro σ S e ⟨hk, H, rfl⟩
 refine WO.of_known hk <| w (.bool (((((a0.ID == a1.ID) && (a0.Op == a1.Op)) && (a0.Of == a1.Of)) && (a0.DN == a1.DN)) && (a0.Version == a1.Version))) rfl rfl ?_
 refine WO.split 6 (SH H [(2, (.ptr i1 0)), (3, (.ptr i2 0)), (44, (.bool ((((((a0.ID == a1.ID) && (a0.Op == a1.Op)) && (a0.Of == a1.Of)) && (a0.DN == a1.DN)) && (a0.Version == a1.Version)) && (a0.Pass == a1.Pass))))]) ?_ ?_
 revert H
 cases hc7 : (((((a0.ID == a1.ID) && (a0.Op == a1.Op)) && (a0.Of == a1.Of)) && (a0.DN == a1.DN)) && (a0.Version == a1.Version))
 intro H
 refine us 6 rfl <| WO.nil ?_
 exact kf H
 intro H
 refine us 1 rfl <| WO.go0 rfl rfl <| wg H 1 rfl rfl rfl rfl <| us 1 rfl <| WO.go0 rfl rfl <| wg H 0 rfl rfl rfl rfl <| us 2 rfl <| WO.nil ?_
 exact kf H
 rintro σ S e ⟨hk, H, rfl⟩
 refine WO.of_known hk <| w (.bool ((((((a0.ID == a1.ID) && (a0.Op == a1.Op)) && (a0.Of == a1.Of)) && (a0.DN == a1.DN)) && (a0.Version == a1.Version)) && (a0.Pass == a1.Pass))) rfl rfl ?_
 refine WO.split 6 (SH H [(2, (.ptr i1 0)), (3, (.ptr i2 0)), (51, (.bool (((((((a0.ID == a1.ID) && (a0.Op == a1.Op)) && (a0.Of == a1.Of)) && (a0.DN == a1.DN)) && (a0.Version == a1.Version)) && (a0.Pass == a1.Pass)) && (a0.Scope == a1.Scope))))]) ?_ ?_
 revert H
 cases hc8 : ((((((a0.ID == a1.ID) && (a0.Op == a1.Op)) && (a0.Of == a1.Of)) && (a0.DN == a1.DN)) && (a0.Version == a1.Version)) && (a0.Pass == a1.Pass))
 intro H
 refine us 6 rfl <| WO.nil ?_
 exact kf H
 intro H
 refine us 1 rfl <| WO.go0 rfl rfl <| wg H 1 rfl rfl rfl rfl <| us 1 rfl <| WO.go0 rfl rfl <| wg H 0 rfl rfl rfl rfl <| us 2 rfl <| WO.nil ?_
 exact kf H
 rintro σ S e ⟨hk, H, rfl⟩
 refine WO.of_known hk <| w (.bool (((((((a0.ID == a1.ID) && (a0.Op == a1.Op)) && (a0.Of == a1.Of)) && (a0.DN == a1.DN)) && (a0.Version == a1.Version)) && (a0.Pass == a1.Pass)) && (a0.Scope == a1.Scope))) rfl rfl ?_
 refine WO.split 6 (SH H [(2, (.ptr i1 0)), (3, (.ptr i2 0)), (58, (.bool ((((((((a0.ID == a1.ID) && (a0.Op == a1.Op)) && (a0.Of == a1.Of)) && (a0.DN == a1.DN)) && (a0.Version == a1.Version)) && (a0.Pass == a1.Pass)) && (a0.Scope == a1.Scope)) && (a0.Size == a1.Size))))]) ?_ ?_
 revert H
 cases hc9 : (((((((a0.ID == a1.ID) && (a0.Op == a1.Op)) && (a0.Of == a1.Of)) && (a0.DN == a1.DN)) && (a0.Version == a1.Version)) && (a0.Pass == a1.Pass)) && (a0.Scope == a1.Scope))
 intro H
 refine us 6 rfl <| WO.nil ?_
 exact kf H
 intro H
 refine us 1 rfl <| WO.go0 rfl rfl <| wg H 1 rfl rfl rfl rfl <| us 1 rfl <| WO.go0 rfl rfl <| wg H 0 rfl rfl rfl rfl <| us 2 rfl <| WO.nil ?_
 exact kf H
 rintro σ S e ⟨hk, H, rfl⟩
 refine WO.of_known hk <| w (.bool ((((((((a0.ID == a1.ID) && (a0.Op == a1.Op)) && (a0.Of == a1.Of)) && (a0.DN == a1.DN)) && (a0.Version == a1.Version)) && (a0.Pass == a1.Pass)) && (a0.Scope == a1.Scope)) && (a0.Size == a1.Size))) rfl rfl ?_
 obtain ⟨y14, hy14, hOy14⟩ := bindS h
 refine WO.split 6 (SJ [(2, (.ptr i1 0)), (3, (.ptr i2 0)), (65, (.bool y14))] [] [] [(i2, .cells (c_Api_Msg a1)), (i1, .cells (c_Api_Msg a0))] [] [] false) ?_ ?_
 replace h := hy14
 revert H
 cases hc16 : ((((((((a0.ID == a1.ID) && (a0.Op == a1.Op)) && (a0.Of == a1.Of)) && (a0.DN == a1.DN)) && (a0.Version == a1.Version)) && (a0.Pass == a1.Pass)) && (a0.Scope == a1.Scope)) && (a0.Size == a1.Size))
 intro H
 replace h := iteF h hc16
 refine us 6 rfl <| WO.nil ?_
 have h := oi h; subst h
 exact kh H
 intro H
 replace h := iteT h hc16
 refine us 1 rfl <| WO.go0 rfl rfl <| wg H 1 rfl rfl rfl rfl <| us 1 rfl <| WO.go0 rfl rfl <| wg H 0 rfl rfl rfl rfl <| WO.go0 rfl rfl ?_
 obtain ⟨y15, hy15, h⟩ := bindS h
 refine cl (.bool y15) [(.agg (c_Api_Filter a0.Filter)), (.agg (c_Api_Filter a1.Filter))] rfl rfl rfl rfl (sv (s42 _ hy15)) <| us 1 rfl <| WO.nil ?_
 have h := oi h; subst h
 exact kh H
 rintro σ S e ⟨hk, H, rfl⟩
 replace h := hOy14
 refine WO.of_known hk <| us 1 rfl ?_
 obtain ⟨y21, hy21, hOy21⟩ := bindS h
 refine WO.split 6 (SJ [(2, (.ptr i1 0)), (3, (.ptr i2 0)), (72, (.bool y21))] [] [] [(i2, .cells (c_Api_Msg a1)), (i1, .cells (c_Api_Msg a0))] [] [] false) ?_ ?_
 replace h := hy21
 revert H
 cases hc23 : y14
 intro H
 replace h := iteF h hc23
 refine us 6 rfl <| WO.nil ?_
 have h := oi h; subst h
 exact kh H
 intro H
 replace h := iteT h hc23
 refine us 1 rfl <| WO.go0 rfl rfl <| wg H 1 rfl rfl rfl rfl <| us 1 rfl <| WO.go0 rfl rfl <| wg H 0 rfl rfl rfl rfl <| WO.go0 rfl rfl ?_
 obtain ⟨y22, hy22, h⟩ := bindS h
 refine cl (.bool y22) [(encSl eS a0.Wants), (encSl eS a1.Wants)] rfl rfl rfl (fe rfl (fe rfl rfl)) (sv (s43 _ hy22)) <| us 1 rfl <| WO.nil ?_
 have h := oi h; subst h
 exact kh H
 rintro σ S e ⟨hk, H, rfl⟩
 replace h := hOy21
 refine WO.of_known hk <| us 1 rfl ?_
 obtain ⟨y28, hy28, hOy28⟩ := bindS h
 refine WO.split 6 (SJ [(2, (.ptr i1 0)), (3, (.ptr i2 0)), (79, (.bool y28))] [] [] [(i2, .cells (c_Api_Msg a1)), (i1, .cells (c_Api_Msg a0))] [] [] false) ?_ ?_
 replace h := hy28
 revert H
 cases hc30 : y21
 intro H
 replace h := iteF h hc30
 refine us 6 rfl <| WO.nil ?_
 have h := oi h; subst h
 exact kh H
 intro H
 replace h := iteT h hc30
 refine us 1 rfl <| WO.go0 rfl rfl <| wg H 1 rfl rfl rfl rfl <| us 1 rfl <| WO.go0 rfl rfl <| wg H 0 rfl rfl rfl rfl <| WO.go0 rfl rfl ?_
 obtain ⟨y29, hy29, h⟩ := bindS h
 refine cl (.bool y29) [(encSl e_Api_Mod a0.Mods), (encSl e_Api_Mod a1.Mods)] rfl rfl rfl (fe rfl (fe rfl rfl)) (sv (s44 _ hy29)) <| us 1 rfl <| WO.nil ?_
 have h := oi h; subst h
 exact kh H
 rintro σ S e ⟨hk, H, rfl⟩
 replace h := hOy28
 refine WO.of_known hk <| us 1 rfl ?_
 refine WO.split 6 (SH H [(2, (.ptr i1 0)), (3, (.ptr i2 0)), (86, (.bool (y28 && (a0.RDN == a1.RDN))))]) ?_ ?_
 revert H
 cases hc31 : y28
 intro H
 refine us 6 rfl <| WO.nil ?_
 exact kf H
 intro H
 refine us 1 rfl <| WO.go0 rfl rfl <| wg H 1 rfl rfl rfl rfl <| us 1 rfl <| WO.go0 rfl rfl <| wg H 0 rfl rfl rfl rfl <| us 2 rfl <| WO.nil ?_
 exact kf H
 rintro σ S e ⟨hk, H, rfl⟩
 refine WO.of_known hk <| w (.bool (y28 && (a0.RDN == a1.RDN))) rfl rfl ?_
 refine WO.split 6 (SH H [(2, (.ptr i1 0)), (3, (.ptr i2 0)), (93, (.bool ((y28 && (a0.RDN == a1.RDN)) && (a0.DelOld == a1.DelOld))))]) ?_ ?_
 revert H
 cases hc32 : (y28 && (a0.RDN == a1.RDN))
 intro H
 refine us 6 rfl <| WO.nil ?_
 exact kf H
 intro H
 refine us 1 rfl <| WO.go0 rfl rfl <| wg H 1 rfl rfl rfl rfl <| us 1 rfl <| WO.go0 rfl rfl <| wg H 0 rfl rfl rfl rfl <| us 2 rfl <| WO.nil ?_
 exact kf H
 rintro σ S e ⟨hk, H, rfl⟩
 refine WO.of_known hk <| w (.bool ((y28 && (a0.RDN == a1.RDN)) && (a0.DelOld == a1.DelOld))) rfl rfl ?_
 refine WO.split 6 (SH H [(2, (.ptr i1 0)), (3, (.ptr i2 0)), (100, (.bool (((y28 && (a0.RDN == a1.RDN)) && (a0.DelOld == a1.DelOld)) && (a0.HasSup == a1.HasSup))))]) ?_ ?_
 revert H
 cases hc33 : ((y28 && (a0.RDN == a1.RDN)) && (a0.DelOld == a1.DelOld))
 intro H
 refine us 6 rfl <| WO.nil ?_
 exact kf H
 intro H
 refine us 1 rfl <| WO.go0 rfl rfl <| wg H 1 rfl rfl rfl rfl <| us 1 rfl <| WO.go0 rfl rfl <| wg H 0 rfl rfl rfl rfl <| us 2 rfl <| WO.nil ?_
 exact kf H
 rintro σ S e ⟨hk, H, rfl⟩
 refine WO.of_known hk <| w (.bool (((y28 && (a0.RDN == a1.RDN)) && (a0.DelOld == a1.DelOld)) && (a0.HasSup == a1.HasSup))) rfl rfl ?_
 refine WO.split 6 (SH H [(2, (.ptr i1 0)), (3, (.ptr i2 0)), (107, (.bool ((((y28 && (a0.RDN == a1.RDN)) && (a0.DelOld == a1.DelOld)) && (a0.HasSup == a1.HasSup)) && (a0.Sup == a1.Sup))))]) ?_ ?_
 revert H
 cases hc34 : (((y28 && (a0.RDN == a1.RDN)) && (a0.DelOld == a1.DelOld)) && (a0.HasSup == a1.HasSup))
 intro H
 refine us 6 rfl <| WO.nil ?_
 exact kf H
 intro H
 refine us 1 rfl <| WO.go0 rfl rfl <| wg H 1 rfl rfl rfl rfl <| us 1 rfl <| WO.go0 rfl rfl <| wg H 0 rfl rfl rfl rfl <| us 2 rfl <| WO.nil ?_
 exact kf H
 rintro σ S e ⟨hk, H, rfl⟩
 refine WO.of_known hk <| w (.bool ((((y28 && (a0.RDN == a1.RDN)) && (a0.DelOld == a1.DelOld)) && (a0.HasSup == a1.HasSup)) && (a0.Sup == a1.Sup))) rfl rfl ?_
 refine WO.split 6 (SH H [(2, (.ptr i1 0)), (3, (.ptr i2 0)), (114, (.bool (((((y28 && (a0.RDN == a1.RDN)) && (a0.DelOld == a1.DelOld)) && (a0.HasSup == a1.HasSup)) && (a0.Sup == a1.Sup)) && (a0.Attr == a1.Attr))))]) ?_ ?_
 revert H
 cases hc35 : ((((y28 && (a0.RDN == a1.RDN)) && (a0.DelOld == a1.DelOld)) && (a0.HasSup == a1.HasSup)) && (a0.Sup == a1.Sup))
 intro H
 refine us 6 rfl <| WO.nil ?_
 exact kf H
 intro H
 refine us 1 rfl <| WO.go0 rfl rfl <| wg H 1 rfl rfl rfl rfl <| us 1 rfl <| WO.go0 rfl rfl <| wg H 0 rfl rfl rfl rfl <| us 2 rfl <| WO.nil ?_
 exact kf H
 rintro σ S e ⟨hk, H, rfl⟩
 refine WO.of_known hk <| w (.bool (((((y28 && (a0.RDN == a1.RDN)) && (a0.DelOld == a1.DelOld)) && (a0.HasSup == a1.HasSup)) && (a0.Sup == a1.Sup)) && (a0.Attr == a1.Attr))) rfl rfl ?_
 refine WO.split 6 (SH H [(2, (.ptr i1 0)), (3, (.ptr i2 0)), (121, (.bool ((((((y28 && (a0.RDN == a1.RDN)) && (a0.DelOld == a1.DelOld)) && (a0.HasSup == a1.HasSup)) && (a0.Sup == a1.Sup)) && (a0.Attr == a1.Attr)) && (a0.Value == a1.Value))))]) ?_ ?_
 revert H
 cases hc36 : (((((y28 && (a0.RDN == a1.RDN)) && (a0.DelOld == a1.DelOld)) && (a0.HasSup == a1.HasSup)) && (a0.Sup == a1.Sup)) && (a0.Attr == a1.Attr))
 intro H
 refine us 6 rfl <| WO.nil ?_
 exact kf H
 intro H
 refine us 1 rfl <| WO.go0 rfl rfl <| wg H 1 rfl rfl rfl rfl <| us 1 rfl <| WO.go0 rfl rfl <| wg H 0 rfl rfl rfl rfl <| us 2 rfl <| WO.nil ?_
 exact kf H
 rintro σ S e ⟨hk, H, rfl⟩
 refine WO.of_known hk <| w (.bool ((((((y28 && (a0.RDN == a1.RDN)) && (a0.DelOld == a1.DelOld)) && (a0.HasSup == a1.HasSup)) && (a0.Sup == a1.Sup)) && (a0.Attr == a1.Attr)) && (a0.Value == a1.Value))) rfl rfl ?_
 refine WO.split 6 (SH H [(2, (.ptr i1 0)), (3, (.ptr i2 0)), (128, (.bool (((((((y28 && (a0.RDN == a1.RDN)) && (a0.DelOld == a1.DelOld)) && (a0.HasSup == a1.HasSup)) && (a0.Sup == a1.Sup)) && (a0.Attr == a1.Attr)) && (a0.Value == a1.Value)) && (a0.Code == a1.Code))))]) ?_ ?_
 revert H
 cases hc37 : ((((((y28 && (a0.RDN == a1.RDN)) && (a0.DelOld == a1.DelOld)) && (a0.HasSup == a1.HasSup)) && (a0.Sup == a1.Sup)) && (a0.Attr == a1.Attr)) && (a0.Value == a1.Value))
 intro H
 refine us 6 rfl <| WO.nil ?_
 exact kf H
 intro H
 refine us 1 rfl <| WO.go0 rfl rfl <| wg H 1 rfl rfl rfl rfl <| us 1 rfl <| WO.go0 rfl rfl <| wg H 0 rfl rfl rfl rfl <| us 2 rfl <| WO.nil ?_
 exact kf H
 rintro σ S e ⟨hk, H, rfl⟩
 refine WO.of_known hk <| w (.bool (((((((y28 && (a0.RDN == a1.RDN)) && (a0.DelOld == a1.DelOld)) && (a0.HasSup == a1.HasSup)) && (a0.Sup == a1.Sup)) && (a0.Attr == a1.Attr)) && (a0.Value == a1.Value)) && (a0.Code == a1.Code))) rfl rfl ?_
 refine WO.split 6 (SH H [(135, (.bool ((((((((y28 && (a0.RDN == a1.RDN)) && (a0.DelOld == a1.DelOld)) && (a0.HasSup == a1.HasSup)) && (a0.Sup == a1.Sup)) && (a0.Attr == a1.Attr)) && (a0.Value == a1.Value)) && (a0.Code == a1.Code)) && (a0.Matched == a1.Matched))))]) ?_ ?_
 revert H
 cases hc38 : (((((((y28 && (a0.RDN == a1.RDN)) && (a0.DelOld == a1.DelOld)) && (a0.HasSup == a1.HasSup)) && (a0.Sup == a1.Sup)) && (a0.Attr == a1.Attr)) && (a0.Value == a1.Value)) && (a0.Code == a1.Code))
 intro H
 refine us 6 rfl <| WO.nil ?_
 exact kf H
 intro H
 refine us 1 rfl <| WO.go0 rfl rfl <| wg H 1 rfl rfl rfl rfl <| us 1 rfl <| WO.go0 rfl rfl <| wg H 0 rfl rfl rfl rfl <| us 2 rfl <| WO.nil ?_
 exact kf H
 rintro σ S e ⟨hk, H, rfl⟩
 refine WO.of_known hk <| us 1 rfl <| WO.nil <| WC.ret ?_
 have h := oi h; subst h
 exact kr (.bool ((((((((y28 && (a0.RDN == a1.RDN)) && (a0.DelOld == a1.DelOld)) && (a0.HasSup == a1.HasSup)) && (a0.Sup == a1.Sup)) && (a0.Attr == a1.Attr)) && (a0.Value == a1.Value)) && (a0.Code == a1.Code)) && (a0.Matched == a1.Matched))) rfl rfl rfl
def F34 (k : Nat) (a0 : Api_Msg) : Option Api_Msg :=
 Option.bind (if a0.Op == 1 then
 some (Api_Msg.mk a0.ID a0.Op 0 a0.DN a0.Version a0.Pass 0 0 (Api_Filter.mk 0 [] [] none none) none none [] false false [] [] [] 0 [])
 else
 Option.bind (if a0.Op == 3 then
 some (Api_Msg.mk a0.ID a0.Op 0 a0.DN 0 [] a0.Scope a0.Size a0.Filter a0.Wants none [] false false [] [] [] 0 [])
 else
 Option.bind (if a0.Op == 4 then
 some (a0.Op == 4)
 else
 Option.bind (if a0.Op == 5 then
 some (a0.Op == 5)
 else
 some (a0.Op == 10)) fun y33007 =>
 some y33007) fun y33004 =>
 Option.bind (if y33004 then
 some (Api_Msg.mk a0.ID a0.Op 0 a0.DN 0 [] 0 0 (Api_Filter.mk 0 [] [] none none) none a0.Mods [] false false [] [] [] 0 [])
 else
 Option.bind (if a0.Op == 6 then
 some (Api_Msg.mk a0.ID a0.Op 0 a0.DN 0 [] 0 0 (Api_Filter.mk 0 [] [] none none) none none [] false false [] [] [] 0 [])
 else
 Option.bind (if a0.Op == 7 then
 Option.bind (if a0.HasSup then
 some (Api_Msg.mk a0.ID a0.Op 0 a0.DN 0 [] 0 0 (Api_Filter.mk 0 [] [] none none) none none a0.RDN a0.DelOld a0.HasSup a0.Sup [] [] 0 [])
 else
 some (Api_Msg.mk a0.ID a0.Op 0 a0.DN 0 [] 0 0 (Api_Filter.mk 0 [] [] none none) none none a0.RDN a0.DelOld a0.HasSup [] [] [] 0 [])) fun y34861 =>
 some y34861
 else
 Option.bind (if a0.Op == 8 then
 some (Api_Msg.mk a0.ID a0.Op 0 a0.DN 0 [] 0 0 (Api_Filter.mk 0 [] [] none none) none none [] false false [] a0.Attr a0.Value 0 [])
 else
 Option.bind (if a0.Op == 9 then
 some (Api_Msg.mk a0.ID a0.Op a0.Of [] 0 [] 0 0 (Api_Filter.mk 0 [] [] none none) none none [] false false [] [] [] a0.Code a0.Matched)
 else
 some (Api_Msg.mk a0.ID a0.Op 0 [] 0 [] 0 0 (Api_Filter.mk 0 [] [] none none) none none [] false false [] [] [] 0 [])) fun y34914 =>
 some y34914) fun y34901 =>
 some y34901) fun y34851 =>
 some y34851) fun y34710 =>
 some y34710) fun y34284 =>
 some y34284) fun y32985 =>
 some y32985) fun y29104 =>
 some y29104
theorem s34 : ∀ k : Nat, ∀ {a0 : Api_Msg} {r : Api_Msg}, F34 k a0 = some r → Q 34 [(.agg (c_Api_Msg a0))] (.agg (c_Api_Msg r)) := by
 intro k a0 r h vs ha S
 unfold F34 at h
 refine evw_pureW (pf := fn34) rfl rfl ha (Nat.le_of_ble_eq_true rfl) (by simp [PV.clean, cleanL, clean_encSl clean_Api_Filter, clean_encSl clean_Api_Mod, clean_encSl clean_eS]) (by simp [PV.clean, cleanL, clean_encSl clean_Api_Filter, clean_encSl clean_Api_Mod, clean_encSl clean_eS]) ?_
 refine WB.of (pf := fn34) rfl ?_
 have H := Hp.start []
 refine WC.seqR <| WO.box' rfl rfl rfl rfl rfl H ?_
 intro i1 S hi1 H
 refine WO.alloc' (ti := ty28) rfl rfl rfl rfl H ?_
 intro i2 S hi2 H
 refine WO.nil <| WC.seqR <| us 1 rfl <| wg H 1 rfl rfl rfl rfl <| us 1 rfl <| wg H 1 rfl rfl rfl rfl <| w (.agg [(.int .i64 a0.ID), (.int .i64 a0.Op), (.int .i64 0), (.str []), (.int .i64 0), (.str []), (.int .i64 0), (.int .i64 0), (.int .i64 0), (.str []), (.str []), .nils, .nils, .nils, .nils, (.str []), (.bool false), (.bool false), (.str []), (.str []), (.str []), (.int .i64 0), (.str [])]) rfl (nz rfl (stp_build (ti := ty28) rfl rfl rfl rfl rfl (fill_cons rfl rfl rfl rfl (Nat.le_of_ble_eq_true rfl) rfl (fill_cons rfl rfl rfl rfl (Nat.le_of_ble_eq_true rfl) rfl rfl)))) <| WO.alloc' (ti := ty28) rfl rfl rfl rfl H ?_
 intro i3 S hi3 H
 refine wos 0 H hi3 rfl rfl rfl rfl rfl rfl rfl rfl rfl rfl ?_
 intro S H
 replace H : Hp [] [] _ [(i3, .cells [(.int .i64 a0.ID), (.int .i64 a0.Op), (.int .i64 0), (.str []), (.int .i64 0), (.str []), (.int .i64 0), (.int .i64 0), (.int .i64 0), (.str []), (.str []), .nils, .nils, .nils, .nils, (.str []), (.bool false), (.bool false), (.str []), (.str []), (.str []), (.int .i64 0), (.str [])]), (i2, .cells z0_), (i1, .cells (c_Api_Msg a0))] [] [] := H
 refine WO.nil <| WC.seq <| WC.seqR <| us 1 rfl <| wg H 2 rfl rfl rfl rfl <| WO.nil <| WC.block <| WC.seqR <| us 2 rfl <| WO.nil ?_
 obtain ⟨y29104, hy29104, hOy29104⟩ := bindS h
 refine WC.join (fun σ' S' e' => ∃ v29105, ∃ v29106, ∃ v29107, ∃ v29108, IsSl eS y29104.Filter.Subs v29105 ∧ IsSl e_Api_Filter y29104.Filter.Kids v29106 ∧ IsSl eS y29104.Wants v29107 ∧ IsSl e_Api_Mod y29104.Mods v29108 ∧ Known ([(2, (.ptr i2 0)), (3, (.ptr i3 0))]) σ' ∧ Hp [] [] S' [(i3, .cells [(.int .i64 y29104.ID), (.int .i64 y29104.Op), (.int .i64 y29104.Of), (.str y29104.DN), (.int .i64 y29104.Version), (.str y29104.Pass), (.int .i64 y29104.Scope), (.int .i64 y29104.Size), (.int .i64 y29104.Filter.Kind), (.str y29104.Filter.Attr), (.str y29104.Filter.Value), v29105, v29106, v29107, v29108, (.str y29104.RDN), (.bool y29104.DelOld), (.bool y29104.HasSup), (.str y29104.Sup), (.str y29104.Attr), (.str y29104.Value), (.int .i64 y29104.Code), (.str y29104.Matched)]), (i2, .cells z0_), (i1, .cells (c_Api_Msg a0))] [] [] ∧ e' = false) ?_ ?_
 replace h := hy29104
 rcases iteS h with ⟨hc34927, h⟩ | ⟨hc34927, h⟩
 refine WC.condT rfl hc34927 <| WC.drawC <| wk (.ptr i1 4) rfl rfl rfl rfl <| wkl H 2 rfl rfl rfl rfl <| wk (.ptr i1 3) rfl rfl rfl rfl <| wkl H 2 rfl rfl rfl rfl <| wk (.ptr i1 5) rfl rfl rfl rfl <| wkl H 2 rfl rfl rfl rfl <| wk (.ptr i3 4) rfl rfl rfl rfl ?_
 have Hh29109 := H
 refine wks 0 H hi3 rfl rfl rfl rfl rfl rfl rfl rfl rfl rfl ?_
 intro S H
 refine ⟨(pend_cons (ld (H.get 2 rfl) rfl) (pend_cons (ld (H.get 2 rfl) rfl) (pend_cons (ld (H.get 2 rfl) rfl) pend_nil))), ?_⟩
 refine wk (.ptr i3 3) rfl rfl rfl rfl ?_
 have Hh29110 := H
 refine wks 0 H hi3 rfl rfl rfl rfl rfl rfl rfl rfl rfl rfl ?_
 intro S H
 refine ⟨(pend_cons (ld (H.get 2 rfl) rfl) (pend_cons (ld (H.get 2 rfl) rfl) (pend_cons (ld (H.get 2 rfl) rfl) pend_nil))), ?_⟩
 refine WK.nil <| us 1 rfl <| wos 0 H hi3 rfl rfl rfl rfl rfl rfl rfl rfl rfl rfl ?_
 intro S H
 replace H : Hp [] [] _ [(i3, .cells [(.int .i64 a0.ID), (.int .i64 a0.Op), (.int .i64 0), (.str a0.DN), (.int .i64 a0.Version), (.str a0.Pass), (.int .i64 0), (.int .i64 0), (.int .i64 0), (.str []), (.str []), .nils, .nils, .nils, .nils, (.str []), (.bool false), (.bool false), (.str []), (.str []), (.str []), (.int .i64 0), (.str [])]), (i2, .cells z0_), (i1, .cells (c_Api_Msg a0))] [] [] := H
 refine WO.nil <| KX.seq_n ?_
 have h := oi h; subst h
 exact ⟨.nils, .nils, .nils, .nils, (isSl_nil _), (isSl_nil _), (isSl_nil _), (isSl_nil _), kn, (hs H), rfl⟩
 refine WC.condF rfl hc34927 <| WC.seqR <| us 2 rfl <| WO.nil ?_
 obtain ⟨y32985, hy32985, hOy32985⟩ := bindS h
 refine WC.join (fun σ' S' e' => ∃ v32986, ∃ v32987, ∃ v32988, ∃ v32989, IsSl eS y32985.Filter.Subs v32986 ∧ IsSl e_Api_Filter y32985.Filter.Kids v32987 ∧ IsSl eS y32985.Wants v32988 ∧ IsSl e_Api_Mod y32985.Mods v32989 ∧ Known ([(2, (.ptr i2 0)), (3, (.ptr i3 0))]) σ' ∧ Hp [] [] S' [(i3, .cells [(.int .i64 y32985.ID), (.int .i64 y32985.Op), (.int .i64 y32985.Of), (.str y32985.DN), (.int .i64 y32985.Version), (.str y32985.Pass), (.int .i64 y32985.Scope), (.int .i64 y32985.Size), (.int .i64 y32985.Filter.Kind), (.str y32985.Filter.Attr), (.str y32985.Filter.Value), v32986, v32987, v32988, v32989, (.str y32985.RDN), (.bool y32985.DelOld), (.bool y32985.HasSup), (.str y32985.Sup), (.str y32985.Attr), (.str y32985.Value), (.int .i64 y32985.Code), (.str y32985.Matched)]), (i2, .cells z0_), (i1, .cells (c_Api_Msg a0))] [] [] ∧ e' = false) ?_ ?_
 replace h := hy32985
 rcases iteS h with ⟨hc34926, h⟩ | ⟨hc34926, h⟩
 refine WC.condT rfl hc34926 <| WC.drawC <| wk (.ptr i1 3) rfl rfl rfl rfl <| wkl H 2 rfl rfl rfl rfl <| wk (.ptr i1 6) rfl rfl rfl rfl <| wkl H 2 rfl rfl rfl rfl <| wk (.ptr i1 7) rfl rfl rfl rfl <| wkl H 2 rfl rfl rfl rfl <| wk (.ptr i1 8) rfl rfl rfl rfl <| wkl H 2 rfl rfl rfl rfl <| wk (.ptr i1 13) rfl rfl rfl rfl <| wkl H 2 rfl rfl rfl rfl <| wk (.ptr i3 3) rfl rfl rfl rfl ?_
 have Hh32990 := H
 refine wks 0 H hi3 rfl rfl rfl rfl rfl rfl rfl rfl rfl rfl ?_
 intro S H
 refine ⟨(pend_cons (ld (H.get 2 rfl) rfl) (pend_cons (ld (H.get 2 rfl) rfl) (pend_cons (ld (H.get 2 rfl) rfl) (pend_cons (ld (H.get 2 rfl) rfl) (pend_cons (ld (H.get 2 rfl) rfl) pend_nil))))), ?_⟩
 refine wk (.ptr i3 6) rfl rfl rfl rfl ?_
 have Hh32991 := H
 refine wks 0 H hi3 rfl rfl rfl rfl rfl rfl rfl rfl rfl rfl ?_
 intro S H
 refine ⟨(pend_cons (ld (H.get 2 rfl) rfl) (pend_cons (ld (H.get 2 rfl) rfl) (pend_cons (ld (H.get 2 rfl) rfl) (pend_cons (ld (H.get 2 rfl) rfl) (pend_cons (ld (H.get 2 rfl) rfl) pend_nil))))), ?_⟩
 refine wk (.ptr i3 7) rfl rfl rfl rfl ?_
 have Hh32992 := H
 refine wks 0 H hi3 rfl rfl rfl rfl rfl rfl rfl rfl rfl rfl ?_
 intro S H
 refine ⟨(pend_cons (ld (H.get 2 rfl) rfl) (pend_cons (ld (H.get 2 rfl) rfl) (pend_cons (ld (H.get 2 rfl) rfl) (pend_cons (ld (H.get 2 rfl) rfl) (pend_cons (ld (H.get 2 rfl) rfl) pend_nil))))), ?_⟩
 refine wk (.ptr i3 8) rfl rfl rfl rfl ?_
 have Hh32993 := H
 refine wks 0 H hi3 rfl rfl rfl rfl rfl rfl rfl rfl rfl rfl ?_
 intro S H
 refine ⟨(pend_cons (ld (H.get 2 rfl) rfl) (pend_cons (ld (H.get 2 rfl) rfl) (pend_cons (ld (H.get 2 rfl) rfl) (pend_cons (ld (H.get 2 rfl) rfl) (pend_cons (ld (H.get 2 rfl) rfl) pend_nil))))), ?_⟩
 refine WK.nil <| us 1 rfl <| WO.store 0 rfl (fe rfl rfl) H rfl rfl rfl rfl (isSl_enc _ _).one.1 (isSl_enc _ _).one.2 rfl (Nat.le_of_ble_eq_true rfl) rfl (own_e hi3) ?_
 intro S H
 replace H : Hp [] [] _ [(i3, .cells [(.int .i64 a0.ID), (.int .i64 a0.Op), (.int .i64 0), (.str a0.DN), (.int .i64 0), (.str []), (.int .i64 a0.Scope), (.int .i64 a0.Size), (.int .i64 a0.Filter.Kind), (.str a0.Filter.Attr), (.str a0.Filter.Value), (encSl eS a0.Filter.Subs), (encSl e_Api_Filter a0.Filter.Kids), (encSl eS a0.Wants), .nils, (.str []), (.bool false), (.bool false), (.str []), (.str []), (.str []), (.int .i64 0), (.str [])]), (i2, .cells z0_), (i1, .cells (c_Api_Msg a0))] [] [] := H
 refine WO.nil <| KX.seq_n ?_
 have h := oi h; subst h
 exact ⟨(encSl eS a0.Filter.Subs), (encSl e_Api_Filter a0.Filter.Kids), (encSl eS a0.Wants), .nils, (isSl_enc _ _), (isSl_enc _ _), (isSl_enc _ _), (isSl_nil _), kn, (hs H), rfl⟩
 refine WC.condF rfl hc34926 <| WC.seq <| WC.seqR <| us 2 rfl <| WO.nil ?_
 obtain ⟨y33004, hy33004, hOy33004⟩ := bindS h
 refine WC.join (SJ [(1, (.ptr i1 0)), (2, (.ptr i2 0)), (3, (.ptr i3 0)), (10, (.int .i64 a0.Op)), (39, (.bool y33004))] [] [] [(i3, .cells [(.int .i64 a0.ID), (.int .i64 a0.Op), (.int .i64 0), (.str []), (.int .i64 0), (.str []), (.int .i64 0), (.int .i64 0), (.int .i64 0), (.str []), (.str []), .nils, .nils, .nils, .nils, (.str []), (.bool false), (.bool false), (.str []), (.str []), (.str []), (.int .i64 0), (.str [])]), (i2, .cells z0_), (i1, .cells (c_Api_Msg a0))] [] [] false) ?_ ?_
 replace h := hy33004
 rcases iteS h with ⟨hc33009, h⟩ | ⟨hc33009, h⟩
 refine WC.condT rfl hc33009 <| WC.skip <| KX.seq_n ?_
 have h := oi h; subst h
 exact kh H
 refine WC.condF rfl hc33009 <| WC.seqR <| us 2 rfl <| WO.nil ?_
 obtain ⟨y33007, hy33007, hOy33007⟩ := bindS h
 refine WC.join (SJ [(1, (.ptr i1 0)), (2, (.ptr i2 0)), (3, (.ptr i3 0)), (10, (.int .i64 a0.Op)), (39, (.bool y33007))] [] [] [(i3, .cells [(.int .i64 a0.ID), (.int .i64 a0.Op), (.int .i64 0), (.str []), (.int .i64 0), (.str []), (.int .i64 0), (.int .i64 0), (.int .i64 0), (.str []), (.str []), .nils, .nils, .nils, .nils, (.str []), (.bool false), (.bool false), (.str []), (.str []), (.str []), (.int .i64 0), (.str [])]), (i2, .cells z0_), (i1, .cells (c_Api_Msg a0))] [] [] false) ?_ ?_
 replace h := hy33007
 rcases iteS h with ⟨hc33008, h⟩ | ⟨hc33008, h⟩
 refine WC.condT rfl hc33008 <| WC.skip <| KX.seq_n ?_
 have h := oi h; subst h
 exact kh H
 refine WC.condF rfl hc33008 <| WC.region <| us 2 rfl <| WO.nil <| KX.seq_n ?_
 have h := oi h; subst h
 exact kh H
 rintro σ S e ⟨hk, H, rfl⟩
 replace h := hOy33007
 refine KX.of_known hk <| KX.seq_n ?_
 have h := oi h; subst h
 exact kh H
 rintro σ S e ⟨hk, H, rfl⟩
 replace h := hOy33004
 refine KX.of_known hk <| KX.seq_n ?_
 obtain ⟨y34284, hy34284, hOy34284⟩ := bindS h
 refine WC.join (fun σ' S' e' => ∃ v34285, ∃ v34286, ∃ v34287, ∃ v34288, IsSl eS y34284.Filter.Subs v34285 ∧ IsSl e_Api_Filter y34284.Filter.Kids v34286 ∧ IsSl eS y34284.Wants v34287 ∧ IsSl e_Api_Mod y34284.Mods v34288 ∧ Known ([(2, (.ptr i2 0)), (3, (.ptr i3 0))]) σ' ∧ Hp [] [] S' [(i3, .cells [(.int .i64 y34284.ID), (.int .i64 y34284.Op), (.int .i64 y34284.Of), (.str y34284.DN), (.int .i64 y34284.Version), (.str y34284.Pass), (.int .i64 y34284.Scope), (.int .i64 y34284.Size), (.int .i64 y34284.Filter.Kind), (.str y34284.Filter.Attr), (.str y34284.Filter.Value), v34285, v34286, v34287, v34288, (.str y34284.RDN), (.bool y34284.DelOld), (.bool y34284.HasSup), (.str y34284.Sup), (.str y34284.Attr), (.str y34284.Value), (.int .i64 y34284.Code), (.str y34284.Matched)]), (i2, .cells z0_), (i1, .cells (c_Api_Msg a0))] [] [] ∧ e' = false) ?_ ?_
 replace h := hy34284
 rcases iteS h with ⟨hc34925, h⟩ | ⟨hc34925, h⟩
 refine WC.condT rfl hc34925 <| WC.drawC <| wk (.ptr i1 3) rfl rfl rfl rfl <| wkl H 2 rfl rfl rfl rfl <| wk (.ptr i1 14) rfl rfl rfl rfl <| wkl H 2 rfl rfl rfl rfl <| wk (.ptr i3 3) rfl rfl rfl rfl ?_
 have Hh34289 := H
 refine wks 0 H hi3 rfl rfl rfl rfl rfl rfl rfl rfl rfl rfl ?_
 intro S H
 refine ⟨(pend_cons (ld (H.get 2 rfl) rfl) (pend_cons (ld (H.get 2 rfl) rfl) pend_nil)), ?_⟩
 refine WK.nil <| us 1 rfl <| WO.store 0 rfl (fe rfl rfl) H rfl rfl rfl rfl (isSl_enc _ _).one.1 (isSl_enc _ _).one.2 rfl (Nat.le_of_ble_eq_true rfl) rfl (own_e hi3) ?_
 intro S H
 replace H : Hp [] [] _ [(i3, .cells [(.int .i64 a0.ID), (.int .i64 a0.Op), (.int .i64 0), (.str a0.DN), (.int .i64 0), (.str []), (.int .i64 0), (.int .i64 0), (.int .i64 0), (.str []), (.str []), .nils, .nils, .nils, (encSl e_Api_Mod a0.Mods), (.str []), (.bool false), (.bool false), (.str []), (.str []), (.str []), (.int .i64 0), (.str [])]), (i2, .cells z0_), (i1, .cells (c_Api_Msg a0))] [] [] := H
 refine WO.nil <| KX.seq_n ?_
 have h := oi h; subst h
 exact ⟨.nils, .nils, .nils, (encSl e_Api_Mod a0.Mods), (isSl_nil _), (isSl_nil _), (isSl_nil _), (isSl_enc _ _), kn, (hs H), rfl⟩
 refine WC.condF rfl hc34925 <| WC.seqR <| us 2 rfl <| WO.nil ?_
 obtain ⟨y34710, hy34710, hOy34710⟩ := bindS h
 refine WC.join (fun σ' S' e' => ∃ v34711, ∃ v34712, ∃ v34713, ∃ v34714, IsSl eS y34710.Filter.Subs v34711 ∧ IsSl e_Api_Filter y34710.Filter.Kids v34712 ∧ IsSl eS y34710.Wants v34713 ∧ IsSl e_Api_Mod y34710.Mods v34714 ∧ Known ([(2, (.ptr i2 0)), (3, (.ptr i3 0))]) σ' ∧ Hp [] [] S' [(i3, .cells [(.int .i64 y34710.ID), (.int .i64 y34710.Op), (.int .i64 y34710.Of), (.str y34710.DN), (.int .i64 y34710.Version), (.str y34710.Pass), (.int .i64 y34710.Scope), (.int .i64 y34710.Size), (.int .i64 y34710.Filter.Kind), (.str y34710.Filter.Attr), (.str y34710.Filter.Value), v34711, v34712, v34713, v34714, (.str y34710.RDN), (.bool y34710.DelOld), (.bool y34710.HasSup), (.str y34710.Sup), (.str y34710.Attr), (.str y34710.Value), (.int .i64 y34710.Code), (.str y34710.Matched)]), (i2, .cells z0_), (i1, .cells (c_Api_Msg a0))] [] [] ∧ e' = false) ?_ ?_
 replace h := hy34710
 rcases iteS h with ⟨hc34924, h⟩ | ⟨hc34924, h⟩
 refine WC.condT rfl hc34924 <| WC.region <| us 1 rfl <| wg H 2 rfl rfl rfl rfl <| us 1 rfl <| wos 0 H hi3 rfl rfl rfl rfl rfl rfl rfl rfl rfl rfl ?_
 intro S H
 replace H : Hp [] [] _ [(i3, .cells [(.int .i64 a0.ID), (.int .i64 a0.Op), (.int .i64 0), (.str a0.DN), (.int .i64 0), (.str []), (.int .i64 0), (.int .i64 0), (.int .i64 0), (.str []), (.str []), .nils, .nils, .nils, .nils, (.str []), (.bool false), (.bool false), (.str []), (.str []), (.str []), (.int .i64 0), (.str [])]), (i2, .cells z0_), (i1, .cells (c_Api_Msg a0))] [] [] := H
 refine WO.nil <| KX.seq_n ?_
 have h := oi h; subst h
 exact ⟨.nils, .nils, .nils, .nils, (isSl_nil _), (isSl_nil _), (isSl_nil _), (isSl_nil _), kn, (hs H), rfl⟩
 refine WC.condF rfl hc34924 <| WC.seqR <| us 2 rfl <| WO.nil ?_
 obtain ⟨y34851, hy34851, hOy34851⟩ := bindS h
 refine WC.join (fun σ' S' e' => ∃ v34852, ∃ v34853, ∃ v34854, ∃ v34855, IsSl eS y34851.Filter.Subs v34852 ∧ IsSl e_Api_Filter y34851.Filter.Kids v34853 ∧ IsSl eS y34851.Wants v34854 ∧ IsSl e_Api_Mod y34851.Mods v34855 ∧ Known ([(2, (.ptr i2 0)), (3, (.ptr i3 0))]) σ' ∧ Hp [] [] S' [(i3, .cells [(.int .i64 y34851.ID), (.int .i64 y34851.Op), (.int .i64 y34851.Of), (.str y34851.DN), (.int .i64 y34851.Version), (.str y34851.Pass), (.int .i64 y34851.Scope), (.int .i64 y34851.Size), (.int .i64 y34851.Filter.Kind), (.str y34851.Filter.Attr), (.str y34851.Filter.Value), v34852, v34853, v34854, v34855, (.str y34851.RDN), (.bool y34851.DelOld), (.bool y34851.HasSup), (.str y34851.Sup), (.str y34851.Attr), (.str y34851.Value), (.int .i64 y34851.Code), (.str y34851.Matched)]), (i2, .cells z0_), (i1, .cells (c_Api_Msg a0))] [] [] ∧ e' = false) ?_ ?_
 replace h := hy34851
 rcases iteS h with ⟨hc34923, h⟩ | ⟨hc34923, h⟩
 refine WC.condT rfl hc34923 <| WC.seq <| WC.drawC <| wk (.ptr i1 3) rfl rfl rfl rfl <| wkl H 2 rfl rfl rfl rfl <| wk (.ptr i1 15) rfl rfl rfl rfl <| wkl H 2 rfl rfl rfl rfl <| wk (.ptr i1 16) rfl rfl rfl rfl <| wkl H 2 rfl rfl rfl rfl <| wk (.ptr i1 17) rfl rfl rfl rfl <| wkl H 2 rfl rfl rfl rfl <| wk (.ptr i3 3) rfl rfl rfl rfl ?_
 have Hh34856 := H
 refine wks 0 H hi3 rfl rfl rfl rfl rfl rfl rfl rfl rfl rfl ?_
 intro S H
 refine ⟨(pend_cons (ld (H.get 2 rfl) rfl) (pend_cons (ld (H.get 2 rfl) rfl) (pend_cons (ld (H.get 2 rfl) rfl) (pend_cons (ld (H.get 2 rfl) rfl) pend_nil)))), ?_⟩
 refine wk (.ptr i3 15) rfl rfl rfl rfl ?_
 have Hh34857 := H
 refine wks 0 H hi3 rfl rfl rfl rfl rfl rfl rfl rfl rfl rfl ?_
 intro S H
 refine ⟨(pend_cons (ld (H.get 2 rfl) rfl) (pend_cons (ld (H.get 2 rfl) rfl) (pend_cons (ld (H.get 2 rfl) rfl) (pend_cons (ld (H.get 2 rfl) rfl) pend_nil)))), ?_⟩
 refine wk (.ptr i3 16) rfl rfl rfl rfl ?_
 have Hh34858 := H
 refine wks 0 H hi3 rfl rfl rfl rfl rfl rfl rfl rfl rfl rfl ?_
 intro S H
 refine ⟨(pend_cons (ld (H.get 2 rfl) rfl) (pend_cons (ld (H.get 2 rfl) rfl) (pend_cons (ld (H.get 2 rfl) rfl) (pend_cons (ld (H.get 2 rfl) rfl) pend_nil)))), ?_⟩
 refine WK.nil <| us 1 rfl <| wos 0 H hi3 rfl rfl rfl rfl rfl rfl rfl rfl rfl rfl ?_
 intro S H
 replace H : Hp [] [] _ [(i3, .cells [(.int .i64 a0.ID), (.int .i64 a0.Op), (.int .i64 0), (.str a0.DN), (.int .i64 0), (.str []), (.int .i64 0), (.int .i64 0), (.int .i64 0), (.str []), (.str []), .nils, .nils, .nils, .nils, (.str a0.RDN), (.bool a0.DelOld), (.bool a0.HasSup), (.str []), (.str []), (.str []), (.int .i64 0), (.str [])]), (i2, .cells z0_), (i1, .cells (c_Api_Msg a0))] [] [] := H
 refine WO.nil <| KX.seq_n <| WC.seqR <| us 1 rfl <| wg H 2 rfl rfl rfl rfl <| WO.nil ?_
 obtain ⟨y34861, hy34861, hOy34861⟩ := bindS h
 refine WC.join (fun σ' S' e' => ∃ v34862, ∃ v34863, ∃ v34864, ∃ v34865, IsSl eS y34861.Filter.Subs v34862 ∧ IsSl e_Api_Filter y34861.Filter.Kids v34863 ∧ IsSl eS y34861.Wants v34864 ∧ IsSl e_Api_Mod y34861.Mods v34865 ∧ Known ([(2, (.ptr i2 0)), (3, (.ptr i3 0))]) σ' ∧ Hp [] [] S' [(i3, .cells [(.int .i64 y34861.ID), (.int .i64 y34861.Op), (.int .i64 y34861.Of), (.str y34861.DN), (.int .i64 y34861.Version), (.str y34861.Pass), (.int .i64 y34861.Scope), (.int .i64 y34861.Size), (.int .i64 y34861.Filter.Kind), (.str y34861.Filter.Attr), (.str y34861.Filter.Value), v34862, v34863, v34864, v34865, (.str y34861.RDN), (.bool y34861.DelOld), (.bool y34861.HasSup), (.str y34861.Sup), (.str y34861.Attr), (.str y34861.Value), (.int .i64 y34861.Code), (.str y34861.Matched)]), (i2, .cells z0_), (i1, .cells (c_Api_Msg a0))] [] [] ∧ e' = false) ?_ ?_
 replace h := hy34861
 rcases iteS h with ⟨hc34866, h⟩ | ⟨hc34866, h⟩
 refine WC.condT rfl hc34866 <| WC.region <| us 1 rfl <| wg H 2 rfl rfl rfl rfl <| us 1 rfl <| wos 0 H hi3 rfl rfl rfl rfl rfl rfl rfl rfl rfl rfl ?_
 intro S H
 replace H : Hp [] [] _ [(i3, .cells [(.int .i64 a0.ID), (.int .i64 a0.Op), (.int .i64 0), (.str a0.DN), (.int .i64 0), (.str []), (.int .i64 0), (.int .i64 0), (.int .i64 0), (.str []), (.str []), .nils, .nils, .nils, .nils, (.str a0.RDN), (.bool a0.DelOld), (.bool a0.HasSup), (.str a0.Sup), (.str []), (.str []), (.int .i64 0), (.str [])]), (i2, .cells z0_), (i1, .cells (c_Api_Msg a0))] [] [] := H
 refine WO.nil <| KX.seq_n ?_
 have h := oi h; subst h
 exact ⟨.nils, .nils, .nils, .nils, (isSl_nil _), (isSl_nil _), (isSl_nil _), (isSl_nil _), kn, (hs H), rfl⟩
 refine WC.condF rfl hc34866 <| WC.skip <| KX.seq_n ?_
 have h := oi h; subst h
 exact ⟨.nils, .nils, .nils, .nils, (isSl_nil _), (isSl_nil _), (isSl_nil _), (isSl_nil _), kn, (hs H), rfl⟩
 rintro σ S e ⟨v34862, v34863, v34864, v34865, hv34862, hv34863, hv34864, hv34865, hk, H, rfl⟩
 replace h := hOy34861
 refine KX.of_known hk <| KX.seq_n ?_
 have h := oi h; subst h
 exact ⟨v34862, v34863, v34864, v34865, hv34862, hv34863, hv34864, hv34865, kn, (hs H), rfl⟩
 refine WC.condF rfl hc34923 <| WC.seqR <| us 2 rfl <| WO.nil ?_
 obtain ⟨y34901, hy34901, hOy34901⟩ := bindS h
 refine WC.join (fun σ' S' e' => ∃ v34902, ∃ v34903, ∃ v34904, ∃ v34905, IsSl eS y34901.Filter.Subs v34902 ∧ IsSl e_Api_Filter y34901.Filter.Kids v34903 ∧ IsSl eS y34901.Wants v34904 ∧ IsSl e_Api_Mod y34901.Mods v34905 ∧ Known ([(2, (.ptr i2 0)), (3, (.ptr i3 0))]) σ' ∧ Hp [] [] S' [(i3, .cells [(.int .i64 y34901.ID), (.int .i64 y34901.Op), (.int .i64 y34901.Of), (.str y34901.DN), (.int .i64 y34901.Version), (.str y34901.Pass), (.int .i64 y34901.Scope), (.int .i64 y34901.Size), (.int .i64 y34901.Filter.Kind), (.str y34901.Filter.Attr), (.str y34901.Filter.Value), v34902, v34903, v34904, v34905, (.str y34901.RDN), (.bool y34901.DelOld), (.bool y34901.HasSup), (.str y34901.Sup), (.str y34901.Attr), (.str y34901.Value), (.int .i64 y34901.Code), (.str y34901.Matched)]), (i2, .cells z0_), (i1, .cells (c_Api_Msg a0))] [] [] ∧ e' = false) ?_ ?_
 replace h := hy34901
 rcases iteS h with ⟨hc34922, h⟩ | ⟨hc34922, h⟩
 refine WC.condT rfl hc34922 <| WC.drawC <| wk (.ptr i1 3) rfl rfl rfl rfl <| wkl H 2 rfl rfl rfl rfl <| wk (.ptr i1 19) rfl rfl rfl rfl <| wkl H 2 rfl rfl rfl rfl <| wk (.ptr i1 20) rfl rfl rfl rfl <| wkl H 2 rfl rfl rfl rfl <| wk (.ptr i3 3) rfl rfl rfl rfl ?_
 have Hh34906 := H
 refine wks 0 H hi3 rfl rfl rfl rfl rfl rfl rfl rfl rfl rfl ?_
 intro S H
 refine ⟨(pend_cons (ld (H.get 2 rfl) rfl) (pend_cons (ld (H.get 2 rfl) rfl) (pend_cons (ld (H.get 2 rfl) rfl) pend_nil))), ?_⟩
 refine wk (.ptr i3 19) rfl rfl rfl rfl ?_
 have Hh34907 := H
 refine wks 0 H hi3 rfl rfl rfl rfl rfl rfl rfl rfl rfl rfl ?_
 intro S H
 refine ⟨(pend_cons (ld (H.get 2 rfl) rfl) (pend_cons (ld (H.get 2 rfl) rfl) (pend_cons (ld (H.get 2 rfl) rfl) pend_nil))), ?_⟩
 refine WK.nil <| us 1 rfl <| wos 0 H hi3 rfl rfl rfl rfl rfl rfl rfl rfl rfl rfl ?_
 intro S H
 replace H : Hp [] [] _ [(i3, .cells [(.int .i64 a0.ID), (.int .i64 a0.Op), (.int .i64 0), (.str a0.DN), (.int .i64 0), (.str []), (.int .i64 0), (.int .i64 0), (.int .i64 0), (.str []), (.str []), .nils, .nils, .nils, .nils, (.str []), (.bool false), (.bool false), (.str []), (.str a0.Attr), (.str a0.Value), (.int .i64 0), (.str [])]), (i2, .cells z0_), (i1, .cells (c_Api_Msg a0))] [] [] := H
 refine WO.nil <| KX.seq_n ?_
 have h := oi h; subst h
 exact ⟨.nils, .nils, .nils, .nils, (isSl_nil _), (isSl_nil _), (isSl_nil _), (isSl_nil _), kn, (hs H), rfl⟩
 refine WC.condF rfl hc34922 <| WC.seqR <| us 2 rfl <| WO.nil ?_
 obtain ⟨y34914, hy34914, hOy34914⟩ := bindS h
 refine WC.join (fun σ' S' e' => ∃ v34915, ∃ v34916, ∃ v34917, ∃ v34918, IsSl eS y34914.Filter.Subs v34915 ∧ IsSl e_Api_Filter y34914.Filter.Kids v34916 ∧ IsSl eS y34914.Wants v34917 ∧ IsSl e_Api_Mod y34914.Mods v34918 ∧ Known ([(2, (.ptr i2 0)), (3, (.ptr i3 0))]) σ' ∧ Hp [] [] S' [(i3, .cells [(.int .i64 y34914.ID), (.int .i64 y34914.Op), (.int .i64 y34914.Of), (.str y34914.DN), (.int .i64 y34914.Version), (.str y34914.Pass), (.int .i64 y34914.Scope), (.int .i64 y34914.Size), (.int .i64 y34914.Filter.Kind), (.str y34914.Filter.Attr), (.str y34914.Filter.Value), v34915, v34916, v34917, v34918, (.str y34914.RDN), (.bool y34914.DelOld), (.bool y34914.HasSup), (.str y34914.Sup), (.str y34914.Attr), (.str y34914.Value), (.int .i64 y34914.Code), (.str y34914.Matched)]), (i2, .cells z0_), (i1, .cells (c_Api_Msg a0))] [] [] ∧ e' = false) ?_ ?_
 replace h := hy34914
 rcases iteS h with ⟨hc34921, h⟩ | ⟨hc34921, h⟩
 refine WC.condT rfl hc34921 <| WC.drawC <| wk (.ptr i1 2) rfl rfl rfl rfl <| wkl H 2 rfl rfl rfl rfl <| wk (.ptr i1 21) rfl rfl rfl rfl <| wkl H 2 rfl rfl rfl rfl <| wk (.ptr i1 22) rfl rfl rfl rfl <| wkl H 2 rfl rfl rfl rfl <| wk (.ptr i3 2) rfl rfl rfl rfl ?_
 have Hh34919 := H
 refine wks 0 H hi3 rfl rfl rfl rfl rfl rfl rfl rfl rfl rfl ?_
 intro S H
 refine ⟨(pend_cons (ld (H.get 2 rfl) rfl) (pend_cons (ld (H.get 2 rfl) rfl) (pend_cons (ld (H.get 2 rfl) rfl) pend_nil))), ?_⟩
 refine wk (.ptr i3 21) rfl rfl rfl rfl ?_
 have Hh34920 := H
 refine wks 0 H hi3 rfl rfl rfl rfl rfl rfl rfl rfl rfl rfl ?_
 intro S H
 refine ⟨(pend_cons (ld (H.get 2 rfl) rfl) (pend_cons (ld (H.get 2 rfl) rfl) (pend_cons (ld (H.get 2 rfl) rfl) pend_nil))), ?_⟩
 refine WK.nil <| us 1 rfl <| wos 0 H hi3 rfl rfl rfl rfl rfl rfl rfl rfl rfl rfl ?_
 intro S H
 replace H : Hp [] [] _ [(i3, .cells [(.int .i64 a0.ID), (.int .i64 a0.Op), (.int .i64 a0.Of), (.str []), (.int .i64 0), (.str []), (.int .i64 0), (.int .i64 0), (.int .i64 0), (.str []), (.str []), .nils, .nils, .nils, .nils, (.str []), (.bool false), (.bool false), (.str []), (.str []), (.str []), (.int .i64 a0.Code), (.str a0.Matched)]), (i2, .cells z0_), (i1, .cells (c_Api_Msg a0))] [] [] := H
 refine WO.nil <| KX.seq_n ?_
 have h := oi h; subst h
 exact ⟨.nils, .nils, .nils, .nils, (isSl_nil _), (isSl_nil _), (isSl_nil _), (isSl_nil _), kn, (hs H), rfl⟩
 refine WC.condF rfl hc34921 <| WC.skip <| KX.seq_n ?_
 have h := oi h; subst h
 exact ⟨.nils, .nils, .nils, .nils, (isSl_nil _), (isSl_nil _), (isSl_nil _), (isSl_nil _), kn, (hs H), rfl⟩
 rintro σ S e ⟨v34915, v34916, v34917, v34918, hv34915, hv34916, hv34917, hv34918, hk, H, rfl⟩
 replace h := hOy34914
 refine KX.of_known hk <| KX.seq_n ?_
 have h := oi h; subst h
 exact ⟨v34915, v34916, v34917, v34918, hv34915, hv34916, hv34917, hv34918, kn, (hs H), rfl⟩
 rintro σ S e ⟨v34902, v34903, v34904, v34905, hv34902, hv34903, hv34904, hv34905, hk, H, rfl⟩
 replace h := hOy34901
 refine KX.of_known hk <| KX.seq_n ?_
 have h := oi h; subst h
 exact ⟨v34902, v34903, v34904, v34905, hv34902, hv34903, hv34904, hv34905, kn, (hs H), rfl⟩
 rintro σ S e ⟨v34852, v34853, v34854, v34855, hv34852, hv34853, hv34854, hv34855, hk, H, rfl⟩
 replace h := hOy34851
 refine KX.of_known hk <| KX.seq_n ?_
 have h := oi h; subst h
 exact ⟨v34852, v34853, v34854, v34855, hv34852, hv34853, hv34854, hv34855, kn, (hs H), rfl⟩
 rintro σ S e ⟨v34711, v34712, v34713, v34714, hv34711, hv34712, hv34713, hv34714, hk, H, rfl⟩
 replace h := hOy34710
 refine KX.of_known hk <| KX.seq_n ?_
 have h := oi h; subst h
 exact ⟨v34711, v34712, v34713, v34714, hv34711, hv34712, hv34713, hv34714, kn, (hs H), rfl⟩
 rintro σ S e ⟨v34285, v34286, v34287, v34288, hv34285, hv34286, hv34287, hv34288, hk, H, rfl⟩
 replace h := hOy34284
 refine KX.of_known hk <| KX.seq_n ?_
 have h := oi h; subst h
 exact ⟨v34285, v34286, v34287, v34288, hv34285, hv34286, hv34287, hv34288, kn, (hs H), rfl⟩
 rintro σ S e ⟨v32986, v32987, v32988, v32989, hv32986, hv32987, hv32988, hv32989, hk, H, rfl⟩
 replace h := hOy32985
 refine KX.of_known hk <| KX.seq_n ?_
 have h := oi h; subst h
 exact ⟨v32986, v32987, v32988, v32989, hv32986, hv32987, hv32988, hv32989, kn, (hs H), rfl⟩
 rintro σ S e ⟨v29105, v29106, v29107, v29108, hv29105, hv29106, hv29107, hv29108, hk, H, rfl⟩
 replace h := hOy29104
 refine KX.of_known hk <| KX.block_n <| KX.seq_n <| WC.seqR <| wg H 0 rfl rfl rfl rfl <| wos 1 H hi2 rfl rfl rfl rfl rfl rfl rfl rfl rfl rfl ?_
 intro S H
 replace H : Hp [] [] _ [(i3, .cells [(.int .i64 y29104.ID), (.int .i64 y29104.Op), (.int .i64 y29104.Of), (.str y29104.DN), (.int .i64 y29104.Version), (.str y29104.Pass), (.int .i64 y29104.Scope), (.int .i64 y29104.Size), (.int .i64 y29104.Filter.Kind), (.str y29104.Filter.Attr), (.str y29104.Filter.Value), v29105, v29106, v29107, v29108, (.str y29104.RDN), (.bool y29104.DelOld), (.bool y29104.HasSup), (.str y29104.Sup), (.str y29104.Attr), (.str y29104.Value), (.int .i64 y29104.Code), (.str y29104.Matched)]), (i2, .cells [(.int .i64 y29104.ID), (.int .i64 y29104.Op), (.int .i64 y29104.Of), (.str y29104.DN), (.int .i64 y29104.Version), (.str y29104.Pass), (.int .i64 y29104.Scope), (.int .i64 y29104.Size), (.int .i64 y29104.Filter.Kind), (.str y29104.Filter.Attr), (.str y29104.Filter.Value), v29105, v29106, v29107, v29108, (.str y29104.RDN), (.bool y29104.DelOld), (.bool y29104.HasSup), (.str y29104.Sup), (.str y29104.Attr), (.str y29104.Value), (.int .i64 y29104.Code), (.str y29104.Matched)]), (i1, .cells (c_Api_Msg a0))] [] [] := H
 refine WO.nil <| WC.ret ?_
 have h := oi h; subst h
 refine KB.ret (vs := [(.agg [(.int .i64 y29104.ID), (.int .i64 y29104.Op), (.int .i64 y29104.Of), (.str y29104.DN), (.int .i64 y29104.Version), (.str y29104.Pass), (.int .i64 y29104.Scope), (.int .i64 y29104.Size), (.int .i64 y29104.Filter.Kind), (.str y29104.Filter.Attr), (.str y29104.Filter.Value), v29105, v29106, v29107, v29108, (.str y29104.RDN), (.bool y29104.DelOld), (.bool y29104.HasSup), (.str y29104.Sup), (.str y29104.Attr), (.str y29104.Value), (.int .i64 y29104.Code), (.str y29104.Matched)])]) (res_cell rfl (H.get 1 rfl) rfl res_nil) (fl_cons' rfl rfl) ?_
 exact (by simp only [st_tup, List.map_cons, List.map_nil, tupled, st_agg, st1_int, st1_str, hv29105.strip1, hv29106.strip1, hv29107.strip1, hv29108.strip1, st1_bool, e_Api_Msg, c_Api_Msg])
def F35_L0 (k : Nat) (a20 : Sl Str) : Nat → Int → Option (Out Bool Int)
 | 0, _ => none
 | n + 1, x21 =>
  if decide (x21 < (Sl.len a20)) then
  Option.bind (Sl.at? a20 x21) fun y26 =>
  if decide ((Str.len y26) > 400) then
  some (Out.ret false)
  else
  F35_L0 k a20 n (ad .i64 x21 1)
  else
  some (Out.brk x21)
def F35 (k : Nat) (a0 : Sl Str) : Option Bool :=
 Option.bind (F35_L0 k a0 k 0) fun y30 =>
 match y30 with
 | .ret y30r => some y30r
 | .brk y30b =>
 some (decide ((Sl.len a0) ≤ 12))
theorem l35_L0 {k : Nat} {a20 : Sl Str} {S0 : List SObj} {R : List Nat} {K : KX}  {o : Out Bool Int}
  (hret : ∀ r : Bool, o = .ret r → EK [(2, (.bool r))] S0 R [] [] [] (K .ret))
  (hbrk : ∀ y : Int, o = .brk y → EK [(0, (encSl eS a20))] S0 R [] [] [] (K (.exit 0))) :
  ∀ {n : Nat} {x21 : Int}, F35_L0 k a20 n x21 = some o → ∀ {σ : Nat → PV} {S : List SObj}, Known [(0, (encSl eS a20)), (3, (.int .i64 x21))] σ → Hp S0 R S [] [] [] → WC env ⟨19, S0.length⟩ (.loop pc35L0) σ S false K := by
 intro n
 induction n with
 | zero => intro _ h; cases h
 | succ n ih =>
  intro x21 h σ S  hk H
  rw [F35_L0] at h
  refine WC.loop <| WC.of_known hk <| WC.seq <| WC.seqR <| us 2 rfl <| wl rfl rfl rfl <| us 1 rfl <| WO.nil ?_
  rcases iteS h with ⟨hc29, h⟩ | ⟨hc29, h⟩
  refine WC.condT rfl hc29 <| WC.skip <| KX.seq_n <| WC.seq <| WC.block <| WC.seqR <| us 2 rfl ?_
  obtain ⟨y26, hy26, h⟩ := bindS h
  refine w (.iptr [(.str y26)] 0) rfl (nz rfl (stp_idxAddr rfl (isSl_enc _ _) rfl rfl rfl hy26 rfl rfl)) <| us 3 rfl <| WO.nil ?_
  rcases iteS h with ⟨hc28, h⟩ | ⟨hc28, h⟩
  refine WC.condT rfl hc28 <| WC.seqR <| us 1 rfl <| WO.nil <| WC.ret <| KX.block_r <| KX.seq_r <| KX.seq_r ?_
  have h := oi h; subst h
  exact hret _ rfl kn (hs H)
  refine WC.condF rfl hc28 <| WC.skip <| KX.block_n <| KX.seq_n <| WC.region <| us 3 rfl <| WO.nil <| KX.seq_n ?_
  exact ih h  kn (hs H)
  refine WC.condF rfl hc29 <| WC.exit <| KX.seq_x <| KX.seq_x ?_
  have h := oi h; subst h
  exact hbrk _ rfl  kn (hs H)
theorem s35 : ∀ k : Nat, ∀ {a0 : Sl Str} {r : Bool}, F35 k a0 = some r → Q 35 [(encSl eS a0)] (.bool r) := by
 intro k a0 r h
 unfold F35 at h
 refine Qe.go (pf := fn35) rfl rfl (Nat.le_of_ble_eq_true rfl) (by simp [PV.clean, cleanL, clean_encSl clean_eS]) rfl rfl fun H => ?_
 refine WC.seqR <| us 1 rfl <| WO.nil <| WC.seq <| WC.seqR <| us 1 rfl <| WO.nil ?_
 obtain ⟨y30, hy30, hOy30⟩ := bindS h
 refine WC.block ?_
 refine l35_L0 ?_ ?_ hy30  kn (hs H)
 intro y30r he σ S  hk H; subst he; replace h := hOy30; dsimp only at h
 refine KX.of_known hk <| KX.block_r <| KX.seq_r ?_
 have h := oi h; subst h
 exact kr (.bool y30r) rfl rfl rfl
 intro y30b he σ S  hk H; subst he; replace h := hOy30; dsimp only at h
 refine KX.of_known hk <| KX.block_x <| KX.seq_n <| WC.seqR <| us 1 rfl <| wl rfl rfl rfl <| us 2 rfl <| WO.nil <| WC.ret ?_
 have h := oi h; subst h
 exact kr (.bool (decide ((Sl.len a0) ≤ 12))) rfl rfl rfl
def F36_L0 (k : Nat) (a246 : Sl Api_Mod) (a247 : Bool) : Nat → Int → Option (Out Bool Int)
 | 0, _ => none
 | n + 1, x248 =>
  if decide (x248 < (Sl.len a246)) then
  Option.bind (Sl.at? a246 x248) fun y309 =>
  Option.bind (if decide (y309.Kind < 1) then
  some true
  else
  Option.bind (Sl.at? a246 x248) fun y315 =>
  some (decide (y315.Kind > 3))) fun y314 =>
  Option.bind (if y314 then
  some true
  else
  Option.bind (if !a247 then
  Option.bind (Sl.at? a246 x248) fun y345 =>
  some (y345.Kind != 1)
  else
  some false) fun y344 =>
  some y344) fun y339 =>
  Option.bind (if y339 then
  some true
  else
  Option.bind (Sl.at? a246 x248) fun y353 =>
  some (decide ((Str.len y353.Attr) > 400))) fun y352 =>
  Option.bind (if y352 then
  some true
  else
  Option.bind (Sl.at? a246 x248) fun y363 =>
  Option.bind (F35 k y363.Values) fun y364 =>
  some (!y364)) fun y362 =>
  if y362 then
  some (Out.ret false)
  else
  F36_L0 k a246 a247 n (ad .i64 x248 1)
  else
  some (Out.brk x248)
def F36 (k : Nat) (a0 : Sl Api_Mod) (a1 : Bool) : Option Bool :=
 Option.bind (F36_L0 k a0 a1 k 0) fun y369 =>
 match y369 with
 | .ret y369r => some y369r
 | .brk y369b =>
 some (decide ((Sl.len a0) ≤ 12))
theorem l36_L0 {k : Nat} {a246 : Sl Api_Mod} {a247 : Bool} {S0 : List SObj} {R : List Nat} {K : KX}  {o : Out Bool Int}
  (hret : ∀ r : Bool, o = .ret r → EK [(4, (.bool r))] S0 R [] [] [] (K .ret))
  (hbrk : ∀ y : Int, o = .brk y → EK [(0, (encSl e_Api_Mod a246))] S0 R [] [] [] (K (.exit 0))) :
  ∀ {n : Nat} {x248 : Int}, F36_L0 k a246 a247 n x248 = some o → ∀ {σ : Nat → PV} {S : List SObj}, Known [(0, (encSl e_Api_Mod a246)), (1, (.bool a247)), (5, (.int .i64 x248))] σ → Hp S0 R S [] [] [] → WC env ⟨59, S0.length⟩ (.loop pc36L0) σ S false K := by
 intro n
 induction n with
 | zero => intro _ h; cases h
 | succ n ih =>
  intro x248 h σ S  hk H
  rw [F36_L0] at h
  refine WC.loop <| WC.of_known hk <| WC.seq <| WC.seqR <| us 2 rfl <| wl rfl rfl rfl <| us 1 rfl <| WO.nil ?_
  rcases iteS h with ⟨hc368, h⟩ | ⟨hc368, h⟩
  refine WC.condT rfl hc368 <| WC.skip <| KX.seq_n <| WC.seq <| WC.block <| WC.seqR <| us 2 rfl ?_
  obtain ⟨y309, hy309, h⟩ := bindS h
  refine w (.iptr (c_Api_Mod y309) 0) rfl (nz rfl (stp_idxAddr rfl (isSl_enc _ _) rfl rfl rfl hy309 (e_Api_Mod_cells _) rfl)) <| us 2 rfl <| w (.bool (decide (y309.Kind < 1))) rfl rfl <| w (.bool (decide (y309.Kind < 1))) rfl rfl ?_
  obtain ⟨y314, hy314, hOy314⟩ := bindS h
  refine WO.split 7 (SJ [(0, (encSl e_Api_Mod a246)), (1, (.bool a247)), (5, (.int .i64 x248)), (25, (.bool y314))] S0 R [] [] [] false) ?_ ?_
  replace h := hy314
  revert H
  cases hc316 : (decide (y309.Kind < 1))
  intro H
  replace h := iteF h hc316
  refine us 2 rfl <| WO.go0 rfl rfl ?_
  obtain ⟨y315, hy315, h⟩ := bindS h
  refine w (.iptr (c_Api_Mod y315) 0) rfl (nz rfl (stp_idxAddr rfl (isSl_enc _ _) rfl rfl rfl hy315 (e_Api_Mod_cells _) rfl)) <| us 4 rfl <| WO.nil ?_
  have h := oi h; subst h
  exact kh H
  intro H
  replace h := iteT h hc316
  refine us 7 rfl <| WO.nil ?_
  have h := oi h; subst h
  exact kh H
  rintro σ S e ⟨hk, H, rfl⟩
  replace h := hOy314
  refine WO.of_known hk <| us 1 rfl ?_
  obtain ⟨y339, hy339, hOy339⟩ := bindS h
  refine WO.split 11 (SJ [(0, (encSl e_Api_Mod a246)), (1, (.bool a247)), (5, (.int .i64 x248)), (37, (.bool y339))] S0 R [] [] [] false) ?_ ?_
  replace h := hy339
  revert H
  cases hc347 : y314
  intro H
  replace h := iteF h hc347
  refine us 1 rfl <| WO.go0 rfl rfl <| w (.bool (!a247)) rfl rfl <| WO.go0 rfl rfl <| w (.bool (!a247)) rfl rfl ?_
  obtain ⟨y344, hy344, hOy344⟩ := bindS h
  refine WO.split 7 (SJ [(0, (encSl e_Api_Mod a246)), (1, (.bool a247)), (5, (.int .i64 x248)), (26, (.bool false)), (36, (.bool y344))] S0 R [] [] [] false) ?_ ?_
  replace h := hy344
  revert H
  cases hc346 : (!a247)
  intro H
  replace h := iteF h hc346
  refine us 7 rfl <| WO.nil ?_
  have h := oi h; subst h
  exact kh H
  intro H
  replace h := iteT h hc346
  refine us 2 rfl <| WO.go0 rfl rfl ?_
  obtain ⟨y345, hy345, h⟩ := bindS h
  refine w (.iptr (c_Api_Mod y345) 0) rfl (nz rfl (stp_idxAddr rfl (isSl_enc _ _) rfl rfl rfl hy345 (e_Api_Mod_cells _) rfl)) <| us 4 rfl <| WO.nil ?_
  have h := oi h; subst h
  exact kh H
  rintro σ S e ⟨hk, H, rfl⟩
  replace h := hOy344
  refine WO.of_known hk <| us 1 rfl <| WO.nil ?_
  have h := oi h; subst h
  exact kh H
  intro H
  replace h := iteT h hc347
  refine us 3 rfl <| WO.by0 rfl rfl <| WO.by0 rfl rfl <| WO.by0 rfl rfl <| WO.by0 rfl rfl <| WO.by0 rfl rfl <| WO.by0 rfl rfl <| us 2 rfl <| WO.nil ?_
  have h := oi h; subst h
  exact kh H
  rintro σ S e ⟨hk, H, rfl⟩
  replace h := hOy339
  refine WO.of_known hk <| us 1 rfl ?_
  obtain ⟨y352, hy352, hOy352⟩ := bindS h
  refine WO.split 8 (SJ [(0, (encSl e_Api_Mod a246)), (1, (.bool a247)), (5, (.int .i64 x248)), (46, (.bool y352))] S0 R [] [] [] false) ?_ ?_
  replace h := hy352
  revert H
  cases hc354 : y339
  intro H
  replace h := iteF h hc354
  refine us 2 rfl <| WO.go0 rfl rfl ?_
  obtain ⟨y353, hy353, h⟩ := bindS h
  refine w (.iptr (c_Api_Mod y353) 0) rfl (nz rfl (stp_idxAddr rfl (isSl_enc _ _) rfl rfl rfl hy353 (e_Api_Mod_cells _) rfl)) <| us 5 rfl <| WO.nil ?_
  have h := oi h; subst h
  exact kh H
  intro H
  replace h := iteT h hc354
  refine us 8 rfl <| WO.nil ?_
  have h := oi h; subst h
  exact kh H
  rintro σ S e ⟨hk, H, rfl⟩
  replace h := hOy352
  refine WO.of_known hk <| us 1 rfl ?_
  obtain ⟨y362, hy362, hOy362⟩ := bindS h
  refine WO.split 8 (SJ [(0, (encSl e_Api_Mod a246)), (1, (.bool a247)), (5, (.int .i64 x248)), (55, (.bool y362))] S0 R [] [] [] false) ?_ ?_
  replace h := hy362
  revert H
  cases hc365 : y352
  intro H
  replace h := iteF h hc365
  refine us 2 rfl <| WO.go0 rfl rfl ?_
  obtain ⟨y363, hy363, h⟩ := bindS h
  refine w (.iptr (c_Api_Mod y363) 0) rfl (nz rfl (stp_idxAddr rfl (isSl_enc _ _) rfl rfl rfl hy363 (e_Api_Mod_cells _) rfl)) <| us 2 rfl <| WO.go0 rfl rfl ?_
  obtain ⟨y364, hy364, h⟩ := bindS h
  refine cl (.bool y364) [(encSl eS y363.Values)] rfl rfl rfl (fe rfl rfl) (sv (s35 _ hy364)) <| us 2 rfl <| WO.nil ?_
  have h := oi h; subst h
  exact kh H
  intro H
  replace h := iteT h hc365
  refine us 8 rfl <| WO.nil ?_
  have h := oi h; subst h
  exact kh H
  rintro σ S e ⟨hk, H, rfl⟩
  replace h := hOy362
  refine WO.of_known hk <| WO.nil ?_
  rcases iteS h with ⟨hc367, h⟩ | ⟨hc367, h⟩
  refine WC.condT rfl hc367 <| WC.seqR <| us 1 rfl <| WO.nil <| WC.ret <| KX.block_r <| KX.seq_r <| KX.seq_r ?_
  have h := oi h; subst h
  exact hret _ rfl kn (hs H)
  refine WC.condF rfl hc367 <| WC.skip <| KX.block_n <| KX.seq_n <| WC.region <| us 3 rfl <| WO.nil <| KX.seq_n ?_
  exact ih h  kn (hs H)
  refine WC.condF rfl hc368 <| WC.exit <| KX.seq_x <| KX.seq_x ?_
  have h := oi h; subst h
  exact hbrk _ rfl  kn (hs H)
theorem s36 : ∀ k : Nat, ∀ {a0 : Sl Api_Mod} {a1 : Bool} {r : Bool}, F36 k a0 a1 = some r → Q 36 [(encSl e_Api_Mod a0), (.bool a1)] (.bool r) := by
 intro k a0 a1 r h
 unfold F36 at h
 refine Qe.go (pf := fn36) rfl rfl (Nat.le_of_ble_eq_true rfl) (by simp [PV.clean, cleanL, clean_encSl clean_Api_Mod]) rfl rfl fun H => ?_
 refine WC.seqR <| us 1 rfl <| WO.nil <| WC.seq <| WC.seqR <| us 1 rfl <| WO.nil ?_
 obtain ⟨y369, hy369, hOy369⟩ := bindS h
 refine WC.block ?_
 refine l36_L0 ?_ ?_ hy369  kn (hs H)
 intro y369r he σ S  hk H; subst he; replace h := hOy369; dsimp only at h
 refine KX.of_known hk <| KX.block_r <| KX.seq_r ?_
 have h := oi h; subst h
 exact kr (.bool y369r) rfl rfl rfl
 intro y369b he σ S  hk H; subst he; replace h := hOy369; dsimp only at h
 refine KX.of_known hk <| KX.block_x <| KX.seq_n <| WC.seqR <| us 1 rfl <| wl rfl rfl rfl <| us 2 rfl <| WO.nil <| WC.ret ?_
 have h := oi h; subst h
 exact kr (.bool (decide ((Sl.len a0) ≤ 12))) rfl rfl rfl
def F69_L0 (rc0 : Api_Filter → Option Int) (k : Nat) (a84 : Api_Filter) : Nat → Int → Int → Option (Int × Int)
 | 0, _, _ => none
 | n + 1, x82, x83 =>
  if (decide (x83 < (Sl.len a84.Kids))) && (decide (x82 ≤ 20)) then
  Option.bind (Sl.at? a84.Kids x83) fun y89 =>
  Option.bind (rc0 y89) fun y90 =>
  F69_L0 rc0 k a84 n (ad .i64 x82 y90) (ad .i64 x83 1)
  else
  some (x82, x83)
def F69 : Nat → Api_Filter → Option Int
 | 0, _ => none
 | k + 1, a0 =>
  Option.bind (if (decide (a0.Kind ≥ 1)) && (decide (a0.Kind ≤ 3)) then
  Option.bind (F69_L0 (F69 k) k a0 k 1 0) fun y92 =>
  some y92.1
  else
  some 1) fun y63 =>
  some (imin y63 21)
theorem l69_L0 {rc0 : Api_Filter → Option Int} (hrc0 : ∀ {a0 : Api_Filter} {r : Int}, rc0 a0 = some r → Q 69 [(.agg (c_Api_Filter a0))] (.int .i64 r)) {k : Nat} {a84 : Api_Filter} {S0 : List SObj} {R : List Nat} {K : KX} {i1 : Nat} (hi1 : S0.length ≤ i1)  {o : (Int × Int)}
  (hbrk : EK [(3, (.int .i64 o.1))] S0 R [(i1, .cells (c_Api_Filter a84))] [] [] (K (.exit 0))) :
  ∀ {n : Nat} {x82 : Int} {x83 : Int}, F69_L0 rc0 k a84 n x82 x83 = some o → ∀ {σ : Nat → PV} {S : List SObj}, Known [(1, (.ptr i1 0)), (3, (.int .i64 x82)), (4, (.int .i64 x83))] σ → Hp S0 R S [(i1, .cells (c_Api_Filter a84))] [] [] → WC env ⟨34, S0.length⟩ (.loop pc69L0) σ S false K := by
 intro n
 induction n with
 | zero => intro _ _ h; cases h
 | succ n ih =>
  intro x82 x83 h σ S  hk H
  rw [F69_L0] at h
  refine WC.loop <| WC.of_known hk <| WC.seq <| WC.seqR <| us 2 rfl <| wg H 0 rfl rfl rfl rfl <| wl rfl rfl rfl <| w (.bool (decide (x83 < (Sl.len a84.Kids)))) rfl rfl <| w (.bool (decide (x83 < (Sl.len a84.Kids)))) rfl rfl ?_
  refine WO.split 3 (SH H [(1, (.ptr i1 0)), (3, (.int .i64 x82)), (4, (.int .i64 x83)), (21, (.bool ((decide (x83 < (Sl.len a84.Kids))) && (decide (x82 ≤ 20)))))]) ?_ ?_
  revert H
  cases hc85 : (decide (x83 < (Sl.len a84.Kids)))
  intro H
  refine us 3 rfl <| WO.nil ?_
  exact kf H
  intro H
  refine us 3 rfl <| WO.nil ?_
  exact kf H
  rintro σ S e ⟨hk, H, rfl⟩
  refine WO.of_known hk <| WO.nil ?_
  rcases iteS h with ⟨hc91, h⟩ | ⟨hc91, h⟩
  refine WC.condT rfl hc91 <| WC.skip <| KX.seq_n <| WC.seq <| WC.block <| WC.region <| us 2 rfl <| wg H 0 rfl rfl rfl rfl <| us 1 rfl ?_
  obtain ⟨y89, hy89, h⟩ := bindS h
  refine w (.iptr (c_Api_Filter y89) 0) rfl (nz rfl (stp_idxAddr rfl (isSl_enc _ _) rfl rfl rfl hy89 (e_Api_Filter_cells _) rfl)) <| us 1 rfl ?_
  obtain ⟨y90, hy90, h⟩ := bindS h
  refine cl (.int .i64 y90) [(.agg (c_Api_Filter y89))] rfl rfl rfl rfl (sv (hrc0 hy90)) <| us 2 rfl <| WO.nil <| KX.block_n <| KX.seq_n <| WC.region <| us 3 rfl <| WO.nil <| KX.seq_n ?_
  exact ih h  kn (hs H)
  refine WC.condF rfl hc91 <| WC.exit <| KX.seq_x <| KX.seq_x ?_
  have h := oi h; subst h
  exact hbrk  kn (hs H)
theorem s69 : ∀ k : Nat, ∀ {a0 : Api_Filter} {r : Int}, F69 k a0 = some r → Q 69 [(.agg (c_Api_Filter a0))] (.int .i64 r) := by
 intro k
 induction k with
 | zero => intro _ r h; cases h
 | succ k ih =>
  intro a0 r h
  rw [F69] at h
  refine Qe.go (pf := fn69) rfl rfl (Nat.le_of_ble_eq_true rfl) (by simp [PV.clean, cleanL, clean_encSl clean_Api_Filter, clean_encSl clean_eS]) rfl rfl fun H => ?_
  refine WC.seqR <| WO.box' rfl rfl rfl rfl rfl H ?_
  intro i1 S hi1 H
  refine us 1 rfl <| WO.nil <| WC.seqR <| us 1 rfl <| WO.nil <| WC.seq <| WC.seqR <| us 1 rfl <| wg H 0 rfl rfl rfl rfl <| w (.bool (decide (a0.Kind ≥ 1))) rfl rfl <| w (.bool (decide (a0.Kind ≥ 1))) rfl rfl ?_
  refine WO.split 4 (SH H [(1, (.ptr i1 0)), (3, (.int .i64 1)), (12, (.bool ((decide (a0.Kind ≥ 1)) && (decide (a0.Kind ≤ 3)))))]) ?_ ?_
  revert H
  cases hc2 : (decide (a0.Kind ≥ 1))
  intro H
  refine us 4 rfl <| WO.nil ?_
  exact kf H
  intro H
  refine us 1 rfl <| WO.go0 rfl rfl <| wg H 0 rfl rfl rfl rfl <| us 2 rfl <| WO.nil ?_
  exact kf H
  rintro σ S e ⟨hk, H, rfl⟩
  refine WO.of_known hk <| WO.nil ?_
  obtain ⟨y63, hy63, hOy63⟩ := bindS h
  refine WC.join (SJ [(3, (.int .i64 y63))] [] [] [(i1, .cells (c_Api_Filter a0))] [] [] false) ?_ ?_
  replace h := hy63
  rcases iteS h with ⟨hc93, h⟩ | ⟨hc93, h⟩
  refine WC.condT rfl hc93 <| WC.seqR <| us 1 rfl <| WO.nil ?_
  obtain ⟨y92, hy92, hOy92⟩ := bindS h
  refine WC.block ?_
  refine l69_L0 ih hi1 ?_ hy92  kn (hs H)
  intro σ S  hk H; replace h := hOy92
  refine KX.of_known hk <| KX.block_x <| KX.seq_n ?_
  have h := oi h; subst h
  exact kh H
  refine WC.condF rfl hc93 <| WC.skip <| KX.seq_n ?_
  have h := oi h; subst h
  exact kh H
  rintro σ S e ⟨hk, H, rfl⟩
  replace h := hOy63
  refine KX.of_known hk <| KX.seq_n <| WC.seqR <| us 3 rfl <| WO.nil <| WC.ret ?_
  have h := oi h; subst h
  exact kr (.int .i64 (imin y63 21)) rfl rfl rfl
def F91_L0 (k : Nat) (a60 : Str) : Nat → Int → Option (Out Bool Int)
 | 0, _ => none
 | n + 1, x61 =>
  if decide (x61 < (Str.len a60)) then
  Option.bind (Str.at? a60 x61) fun c72 =>
  if (((decide (c72 < 97)) || (decide (c72 > 122))) && ((decide (c72 < 48)) || (decide (c72 > 57)))) && (c72 != 45) then
  some (Out.ret false)
  else
  F91_L0 k a60 n (ad .i64 x61 1)
  else
  some (Out.brk x61)
def F91 (k : Nat) (a0 : Str) : Option Bool :=
 Option.bind (if (decide ((Str.len a0) < 1)) || (decide ((Str.len a0) > 16)) then
 some true
 else
 Option.bind (Str.at? a0 0) fun c7 =>
 some (decide (c7 < 97))) fun y6 =>
 Option.bind (if y6 then
 some true
 else
 Option.bind (Str.at? a0 0) fun c14 =>
 some (decide (c14 > 122))) fun y13 =>
 if y13 then
 some false
 else
 Option.bind (F91_L0 k a0 k 0) fun y82 =>
 match y82 with
 | .ret y82r => some y82r
 | .brk y82b =>
 some true
theorem l91_L0 {k : Nat} {a60 : Str} {S0 : List SObj} {R : List Nat} {K : KX}  {o : Out Bool Int}
  (hret : ∀ r : Bool, o = .ret r → EK [(2, (.bool r))] S0 R [] [] [] (K .ret))
  (hbrk : ∀ y : Int, o = .brk y → EK [] S0 R [] [] [] (K (.exit 0))) :
  ∀ {n : Nat} {x61 : Int}, F91_L0 k a60 n x61 = some o → ∀ {σ : Nat → PV} {S : List SObj}, Known [(0, (.str a60)), (3, (.int .i64 x61))] σ → Hp S0 R S [] [] [] → WC env ⟨50, S0.length⟩ (.loop pc91L0) σ S false K := by
 intro n
 induction n with
 | zero => intro _ h; cases h
 | succ n ih =>
  intro x61 h σ S  hk H
  rw [F91_L0] at h
  refine WC.loop <| WC.of_known hk <| WC.seq <| WC.seqR <| us 4 rfl <| WO.nil ?_
  rcases iteS h with ⟨hc81, h⟩ | ⟨hc81, h⟩
  refine WC.condT rfl hc81 <| WC.skip <| KX.seq_n <| WC.seq <| WC.block <| WC.seqR <| us 2 rfl ?_
  obtain ⟨c72, hc72, h⟩ := bindS h
  refine w (.int .u8 c72) rfl (nz rfl (stp_idxStr rfl rfl rfl hc72)) <| us 1 rfl <| WO.nil <| WC.seqR <| us 1 rfl <| w (.bool (decide (c72 < 97))) rfl rfl <| w (.bool (decide (c72 < 97))) rfl rfl ?_
  refine WO.split 3 (SH H [(0, (.str a60)), (3, (.int .i64 x61)), (4, (.int .u8 c72)), (37, (.bool ((decide (c72 < 97)) || (decide (c72 > 122)))))]) ?_ ?_
  revert H
  cases hc73 : (decide (c72 < 97))
  intro H
  refine us 3 rfl <| WO.nil ?_
  exact kf H
  intro H
  refine us 3 rfl <| WO.nil ?_
  exact kf H
  rintro σ S e ⟨hk, H, rfl⟩
  refine WO.of_known hk <| w (.bool ((decide (c72 < 97)) || (decide (c72 > 122)))) rfl rfl ?_
  refine WO.split 7 (SJ [(0, (.str a60)), (3, (.int .i64 x61)), (4, (.int .u8 c72)), (45, (.bool (((decide (c72 < 97)) || (decide (c72 > 122))) && ((decide (c72 < 48)) || (decide (c72 > 57))))))] S0 R [] [] [] false) ?_ ?_
  revert H
  cases hc76 : ((decide (c72 < 97)) || (decide (c72 > 122)))
  intro H
  refine us 3 rfl <| WO.by0 rfl rfl <| WO.by0 rfl rfl <| us 2 rfl <| WO.nil ?_
  exact kf H
  intro H
  refine us 1 rfl <| WO.go0 rfl rfl <| w (.bool (decide (c72 < 48))) rfl rfl <| WO.go0 rfl rfl <| w (.bool (decide (c72 < 48))) rfl rfl ?_
  refine WO.split 3 (SH H [(0, (.str a60)), (3, (.int .i64 x61)), (4, (.int .u8 c72)), (38, (.bool true)), (44, (.bool ((decide (c72 < 48)) || (decide (c72 > 57)))))]) ?_ ?_
  revert H
  cases hc77 : (decide (c72 < 48))
  intro H
  refine us 3 rfl <| WO.nil ?_
  exact kf H
  intro H
  refine us 3 rfl <| WO.nil ?_
  exact kf H
  rintro σ S e ⟨hk, H, rfl⟩
  refine WO.of_known hk <| us 1 rfl <| WO.nil ?_
  exact kf H
  rintro σ S e ⟨hk, H, rfl⟩
  refine WO.of_known hk <| w (.bool (((decide (c72 < 97)) || (decide (c72 > 122))) && ((decide (c72 < 48)) || (decide (c72 > 57))))) rfl rfl ?_
  refine WO.split 3 (SH H [(0, (.str a60)), (3, (.int .i64 x61)), (49, (.bool ((((decide (c72 < 97)) || (decide (c72 > 122))) && ((decide (c72 < 48)) || (decide (c72 > 57)))) && (c72 != 45))))]) ?_ ?_
  revert H
  cases hc78 : (((decide (c72 < 97)) || (decide (c72 > 122))) && ((decide (c72 < 48)) || (decide (c72 > 57))))
  intro H
  refine us 3 rfl <| WO.nil ?_
  exact kf H
  intro H
  refine us 3 rfl <| WO.nil ?_
  exact kf H
  rintro σ S e ⟨hk, H, rfl⟩
  refine WO.of_known hk <| WO.nil ?_
  rcases iteS h with ⟨hc80, h⟩ | ⟨hc80, h⟩
  refine WC.condT rfl hc80 <| WC.seqR <| us 1 rfl <| WO.nil <| WC.ret <| KX.block_r <| KX.seq_r <| KX.seq_r ?_
  have h := oi h; subst h
  exact hret _ rfl kn (hs H)
  refine WC.condF rfl hc80 <| WC.skip <| KX.block_n <| KX.seq_n <| WC.region <| us 3 rfl <| WO.nil <| KX.seq_n ?_
  exact ih h  kn (hs H)
  refine WC.condF rfl hc81 <| WC.exit <| KX.seq_x <| KX.seq_x ?_
  have h := oi h; subst h
  exact hbrk _ rfl  known_nil (hs H)
theorem s91 : ∀ k : Nat, ∀ {a0 : Str} {r : Bool}, F91 k a0 = some r → Q 91 [(.str a0)] (.bool r) := by
 intro k a0 r h
 unfold F91 at h
 refine Qe.go (pf := fn91) rfl rfl (Nat.le_of_ble_eq_true rfl) rfl rfl rfl fun H => ?_
 refine WC.seqR <| us 1 rfl <| WO.nil <| WC.seq <| WC.seqR <| us 2 rfl <| w (.bool (decide ((Str.len a0) < 1))) rfl rfl <| w (.bool (decide ((Str.len a0) < 1))) rfl rfl ?_
 refine WO.split 4 (SH H [(0, (.str a0)), (12, (.bool ((decide ((Str.len a0) < 1)) || (decide ((Str.len a0) > 16)))))]) ?_ ?_
 revert H
 cases hc1 : (decide ((Str.len a0) < 1))
 intro H
 refine us 4 rfl <| WO.nil ?_
 exact kf H
 intro H
 refine us 4 rfl <| WO.nil ?_
 exact kf H
 rintro σ S e ⟨hk, H, rfl⟩
 refine WO.of_known hk <| w (.bool ((decide ((Str.len a0) < 1)) || (decide ((Str.len a0) > 16)))) rfl rfl ?_
 obtain ⟨y6, hy6, hOy6⟩ := bindS h
 refine WO.split 4 (SJ [(0, (.str a0)), (17, (.bool y6))] [] [] [] [] [] false) ?_ ?_
 replace h := hy6
 revert H
 cases hc8 : ((decide ((Str.len a0) < 1)) || (decide ((Str.len a0) > 16)))
 intro H
 replace h := iteF h hc8
 refine us 1 rfl <| WO.go0 rfl rfl ?_
 obtain ⟨c7, hc7, h⟩ := bindS h
 refine w (.int .u8 c7) rfl (nz rfl (stp_idxStr rfl rfl rfl hc7)) <| us 2 rfl <| WO.nil ?_
 have h := oi h; subst h
 exact kh H
 intro H
 replace h := iteT h hc8
 refine us 4 rfl <| WO.nil ?_
 have h := oi h; subst h
 exact kh H
 rintro σ S e ⟨hk, H, rfl⟩
 replace h := hOy6
 refine WO.of_known hk <| us 1 rfl ?_
 obtain ⟨y13, hy13, hOy13⟩ := bindS h
 refine WO.split 4 (SJ [(0, (.str a0)), (22, (.bool y13))] [] [] [] [] [] false) ?_ ?_
 replace h := hy13
 revert H
 cases hc15 : y6
 intro H
 replace h := iteF h hc15
 refine us 1 rfl <| WO.go0 rfl rfl ?_
 obtain ⟨c14, hc14, h⟩ := bindS h
 refine w (.int .u8 c14) rfl (nz rfl (stp_idxStr rfl rfl rfl hc14)) <| us 2 rfl <| WO.nil ?_
 have h := oi h; subst h
 exact kh H
 intro H
 replace h := iteT h hc15
 refine us 4 rfl <| WO.nil ?_
 have h := oi h; subst h
 exact kh H
 rintro σ S e ⟨hk, H, rfl⟩
 replace h := hOy13
 refine WO.of_known hk <| WO.nil ?_
 rcases iteS h with ⟨hc83, h⟩ | ⟨hc83, h⟩
 refine WC.condT rfl hc83 <| WC.seqR <| us 1 rfl <| WO.nil <| WC.ret <| KX.seq_r ?_
 have h := oi h; subst h
 exact kr (.bool false) rfl rfl rfl
 refine WC.condF rfl hc83 <| WC.skip <| KX.seq_n <| WC.seq <| WC.seqR <| us 1 rfl <| WO.nil ?_
 obtain ⟨y82, hy82, hOy82⟩ := bindS h
 refine WC.block ?_
 refine l91_L0 ?_ ?_ hy82  kn (hs H)
 intro y82r he σ S  hk H; subst he; replace h := hOy82; dsimp only at h
 refine KX.of_known hk <| KX.block_r <| KX.seq_r ?_
 have h := oi h; subst h
 exact kr (.bool y82r) rfl rfl rfl
 intro y82b he σ S  hk H; subst he; replace h := hOy82; dsimp only at h
 refine KX.of_known hk <| KX.block_x <| KX.seq_n <| WC.seqR <| us 1 rfl <| WO.nil <| WC.ret ?_
 have h := oi h; subst h
 exact kr (.bool true) rfl rfl rfl
def F92_L0 (k : Nat) (a99 : Sl Str) : Nat → Bool → Int → Option (Out Bool (Bool × Int))
 | 0, _, _ => none
 | n + 1, x100, x101 =>
  if decide (x101 < (Sl.len a99)) then
  Option.bind (Sl.at? a99 x101) fun y128 =>
  Option.bind (if decide ((Str.len y128) > 60) then
  some true
  else
  Option.bind (Sl.at? a99 x101) fun y140 =>
  some (((y140 == []) && (decide (x101 > 0))) && (decide (x101 < (sb .i64 (Sl.len a99) 1))))) fun y139 =>
  if y139 then
  some (Out.ret false)
  else
  Option.bind (if x100 then
  some true
  else
  Option.bind (Sl.at? a99 x101) fun y150 =>
  some (!(y150 == []))) fun y149 =>
  F92_L0 k a99 n y149 (ad .i64 x101 1)
  else
  some (Out.brk (x100, x101))
def F92 (k : Nat) (a0 : Sl Str) : Option Bool :=
 if (decide ((Sl.len a0) < 2)) || (decide ((Sl.len a0) > 20)) then
 some false
 else
 Option.bind (F92_L0 k a0 k false 0) fun y154 =>
 match y154 with
 | .ret y154r => some y154r
 | .brk y154b =>
 some y154b.1
theorem l92_L0 {k : Nat} {a99 : Sl Str} {S0 : List SObj} {R : List Nat} {K : KX}  {o : Out Bool (Bool × Int)}
  (hret : ∀ r : Bool, o = .ret r → EK [(2, (.bool r))] S0 R [] [] [] (K .ret))
  (hbrk : ∀ y : Bool × Int, o = .brk y → EK [(3, (.bool y.1))] S0 R [] [] [] (K (.exit 0))) :
  ∀ {n : Nat} {x100 : Bool} {x101 : Int}, F92_L0 k a99 n x100 x101 = some o → ∀ {σ : Nat → PV} {S : List SObj}, Known [(0, (encSl eS a99)), (3, (.bool x100)), (4, (.int .i64 x101))] σ → Hp S0 R S [] [] [] → WC env ⟨52, S0.length⟩ (.loop pc92L0) σ S false K := by
 intro n
 induction n with
 | zero => intro _ _ h; cases h
 | succ n ih =>
  intro x100 x101 h σ S  hk H
  rw [F92_L0] at h
  refine WC.loop <| WC.of_known hk <| WC.seq <| WC.seqR <| us 2 rfl <| wl rfl rfl rfl <| us 1 rfl <| WO.nil ?_
  rcases iteS h with ⟨hc153, h⟩ | ⟨hc153, h⟩
  refine WC.condT rfl hc153 <| WC.skip <| KX.seq_n <| WC.seq <| WC.block <| WC.seq <| WC.seqR <| us 2 rfl ?_
  obtain ⟨y128, hy128, h⟩ := bindS h
  refine w (.iptr [(.str y128)] 0) rfl (nz rfl (stp_idxAddr rfl (isSl_enc _ _) rfl rfl rfl hy128 rfl rfl)) <| us 2 rfl <| w (.bool (decide ((Str.len y128) > 60))) rfl rfl <| w (.bool (decide ((Str.len y128) > 60))) rfl rfl ?_
  obtain ⟨y139, hy139, hOy139⟩ := bindS h
  refine WO.split 17 (SJ [(0, (encSl eS a99)), (3, (.bool x100)), (4, (.int .i64 x101)), (42, (.bool y139))] S0 R [] [] [] false) ?_ ?_
  replace h := hy139
  revert H
  cases hc143 : (decide ((Str.len y128) > 60))
  intro H
  replace h := iteF h hc143
  refine us 2 rfl <| WO.go0 rfl rfl ?_
  obtain ⟨y140, hy140, h⟩ := bindS h
  refine w (.iptr [(.str y140)] 0) rfl (nz rfl (stp_idxAddr rfl (isSl_enc _ _) rfl rfl rfl hy140 rfl rfl)) <| us 1 rfl <| WO.go0 rfl rfl <| w (.bool (y140 == [])) rfl rfl <| WO.go0 rfl rfl <| w (.bool (y140 == [])) rfl rfl ?_
  refine WO.split 3 (SH H [(0, (encSl eS a99)), (3, (.bool x100)), (4, (.int .i64 x101)), (25, (.bool false)), (34, (.bool ((y140 == []) && (decide (x101 > 0)))))]) ?_ ?_
  revert H
  cases hc141 : (y140 == [])
  intro H
  refine us 3 rfl <| WO.nil ?_
  exact kf H
  intro H
  refine us 3 rfl <| WO.nil ?_
  exact kf H
  rintro σ S e ⟨hk, H, rfl⟩
  refine WO.of_known hk <| WO.go0 rfl rfl <| w (.bool ((y140 == []) && (decide (x101 > 0)))) rfl rfl ?_
  refine WO.split 6 (SH H [(0, (encSl eS a99)), (3, (.bool x100)), (4, (.int .i64 x101)), (25, (.bool false)), (41, (.bool (((y140 == []) && (decide (x101 > 0))) && (decide (x101 < (sb .i64 (Sl.len a99) 1))))))]) ?_ ?_
  revert H
  cases hc142 : ((y140 == []) && (decide (x101 > 0)))
  intro H
  refine us 6 rfl <| WO.nil ?_
  exact kf H
  intro H
  refine us 2 rfl <| WO.go0 rfl rfl <| wl rfl rfl rfl <| us 3 rfl <| WO.nil ?_
  exact kf H
  rintro σ S e ⟨hk, H, rfl⟩
  refine WO.of_known hk <| us 1 rfl <| WO.nil ?_
  have h := oi h; subst h
  exact kh H
  intro H
  replace h := iteT h hc143
  refine us 6 rfl <| WO.by0 rfl rfl <| WO.by0 rfl rfl <| us 2 rfl <| WO.by0 rfl rfl <| WO.by0 rfl rfl <| WO.by0 rfl rfl <| WO.by0 rfl rfl <| WO.by0 rfl rfl <| us 2 rfl <| WO.nil ?_
  have h := oi h; subst h
  exact kh H
  rintro σ S e ⟨hk, H, rfl⟩
  replace h := hOy139
  refine WO.of_known hk <| WO.nil ?_
  rcases iteS h with ⟨hc152, h⟩ | ⟨hc152, h⟩
  refine WC.condT rfl hc152 <| WC.seqR <| us 1 rfl <| WO.nil <| WC.ret <| KX.seq_r <| KX.block_r <| KX.seq_r <| KX.seq_r ?_
  have h := oi h; subst h
  exact hret _ rfl kn (hs H)
  refine WC.condF rfl hc152 <| WC.skip <| KX.seq_n <| WC.region <| us 2 rfl ?_
  obtain ⟨y149, hy149, hOy149⟩ := bindS h
  refine WO.split 6 (SJ [(0, (encSl eS a99)), (4, (.int .i64 x101)), (50, (.bool y149))] S0 R [] [] [] false) ?_ ?_
  replace h := hy149
  revert H
  cases hc151 : x100
  intro H
  replace h := iteF h hc151
  refine us 2 rfl <| WO.go0 rfl rfl ?_
  obtain ⟨y150, hy150, h⟩ := bindS h
  refine w (.iptr [(.str y150)] 0) rfl (nz rfl (stp_idxAddr rfl (isSl_enc _ _) rfl rfl rfl hy150 rfl rfl)) <| us 3 rfl <| WO.nil ?_
  have h := oi h; subst h
  exact kh H
  intro H
  replace h := iteT h hc151
  refine us 6 rfl <| WO.nil ?_
  have h := oi h; subst h
  exact kh H
  rintro σ S e ⟨hk, H, rfl⟩
  replace h := hOy149
  refine WO.of_known hk <| us 1 rfl <| WO.nil <| KX.block_n <| KX.seq_n <| WC.region <| us 3 rfl <| WO.nil <| KX.seq_n ?_
  exact ih h  kn (hs H)
  refine WC.condF rfl hc153 <| WC.exit <| KX.seq_x <| KX.seq_x ?_
  have h := oi h; subst h
  exact hbrk _ rfl  kn (hs H)
theorem s92 : ∀ k : Nat, ∀ {a0 : Sl Str} {r : Bool}, F92 k a0 = some r → Q 92 [(encSl eS a0)] (.bool r) := by
 intro k a0 r h
 unfold F92 at h
 refine Qe.go (pf := fn92) rfl rfl (Nat.le_of_ble_eq_true rfl) (by simp [PV.clean, cleanL, clean_encSl clean_eS]) rfl rfl fun H => ?_
 refine WC.seqR <| us 1 rfl <| WO.nil <| WC.seq <| WC.seqR <| us 1 rfl <| wl rfl rfl rfl <| w (.bool (decide ((Sl.len a0) < 2))) rfl rfl <| w (.bool (decide ((Sl.len a0) < 2))) rfl rfl ?_
 refine WO.split 4 (SH H [(0, (encSl eS a0)), (12, (.bool ((decide ((Sl.len a0) < 2)) || (decide ((Sl.len a0) > 20)))))]) ?_ ?_
 revert H
 cases hc1 : (decide ((Sl.len a0) < 2))
 intro H
 refine us 1 rfl <| WO.go0 rfl rfl <| wl rfl rfl rfl <| us 2 rfl <| WO.nil ?_
 exact kf H
 intro H
 refine us 4 rfl <| WO.nil ?_
 exact kf H
 rintro σ S e ⟨hk, H, rfl⟩
 refine WO.of_known hk <| WO.nil ?_
 rcases iteS h with ⟨hc155, h⟩ | ⟨hc155, h⟩
 refine WC.condT rfl hc155 <| WC.seqR <| us 1 rfl <| WO.nil <| WC.ret <| KX.seq_r ?_
 have h := oi h; subst h
 exact kr (.bool false) rfl rfl rfl
 refine WC.condF rfl hc155 <| WC.skip <| KX.seq_n <| WC.seqR <| us 1 rfl <| WO.nil <| WC.seq <| WC.seqR <| us 1 rfl <| WO.nil ?_
 obtain ⟨y154, hy154, hOy154⟩ := bindS h
 refine WC.block ?_
 refine l92_L0 ?_ ?_ hy154  kn (hs H)
 intro y154r he σ S  hk H; subst he; replace h := hOy154; dsimp only at h
 refine KX.of_known hk <| KX.block_r <| KX.seq_r ?_
 have h := oi h; subst h
 exact kr (.bool y154r) rfl rfl rfl
 intro y154b he σ S  hk H; subst he; replace h := hOy154; dsimp only at h
 refine KX.of_known hk <| KX.block_x <| KX.seq_n <| WC.seqR <| us 2 rfl <| WO.nil <| WC.ret ?_
 have h := oi h; subst h
 exact kr (.bool y154b.1) rfl rfl rfl
end Go.Proofs.YtbinlabnilidiaaGreatDoor.M
