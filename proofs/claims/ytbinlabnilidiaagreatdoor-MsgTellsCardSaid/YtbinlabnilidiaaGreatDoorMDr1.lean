/- Part of the proof: the runs of functions on the abstract machine. -/
import Derived.Test.YtbinlabnilidiaaGreatDoorPamM3
import Derived.Test.YtbinlabnilidiaaGreatDoorFns
import Derived.Test.YtbinlabnilidiaaGreatDoorMDe
import Derived.Test.YtbinlabnilidiaaGreatDoorMDc
import Derived.Test.YtbinlabnilidiaaGreatDoorMDc1
import Derived.Test.YtbinlabnilidiaaGreatDoorMDr
namespace Go.Proofs.YtbinlabnilidiaaGreatDoor.M
open Go Go.Pam Go.RowKit Go.WideShapes
set_option maxRecDepth 8000
set_option linter.unusedVariables false
set_option linter.unusedSimpArgs false

def F70_L0 (rc0 : Api_Filter → Option Bool) (k : Nat) (a79 : Api_Filter) : Nat → Int → Option (Out Bool Int)
 | 0, _ => none
 | n + 1, x78 =>
  if decide (x78 < (Sl.len a79.Kids)) then
  Option.bind (Sl.at? a79.Kids x78) fun y85 =>
  Option.bind (rc0 y85) fun y86 =>
  if !y86 then
  some (Out.ret false)
  else
  F70_L0 rc0 k a79 n (ad .i64 x78 1)
  else
  some (Out.brk x78)
def F70 : Nat → Api_Filter → Option Bool
 | 0, _ => none
 | k + 1, a0 =>
  if (decide (a0.Kind ≥ 1)) && (decide (a0.Kind ≤ 3)) then
  if (((!(a0.Attr == [])) || (!(a0.Value == []))) || (decide ((Sl.len a0.Subs) > 0))) || ((a0.Kind == 3) && ((Sl.len a0.Kids) != 1)) then
  some false
  else
  Option.bind (F70_L0 (F70 k) k a0 k 0) fun y90 =>
  match y90 with
  | .ret y90r => some y90r
  | .brk y90b =>
  some true
  else
  Option.bind (if ((decide (a0.Kind < 4)) || (decide (a0.Kind > 8))) || (decide ((Sl.len a0.Kids) > 0)) then
  some true
  else
  Option.bind (F91 k a0.Attr) fun y99 =>
  some (!y99)) fun y98 =>
  if y98 then
  some false
  else
  if a0.Kind == 7 then
  some ((a0.Value == []) && ((Sl.len a0.Subs) == 0))
  else
  if a0.Kind == 8 then
  Option.bind (if a0.Value == [] then
  Option.bind (F92 k a0.Subs) fun y170 =>
  some y170
  else
  some false) fun y169 =>
  some y169
  else
  some ((decide ((Str.len a0.Value) ≤ 60)) && ((Sl.len a0.Subs) == 0))
theorem l70_L0 {rc0 : Api_Filter → Option Bool} (hrc0 : ∀ {a0 : Api_Filter} {r : Bool}, rc0 a0 = some r → Q 70 [(.agg (c_Api_Filter a0))] (.bool r)) {k : Nat} {a79 : Api_Filter} {S0 : List SObj} {R : List Nat} {K : KX} {i1 : Nat} (hi1 : S0.length ≤ i1)  {o : Out Bool Int}
  (hret : ∀ r : Bool, o = .ret r → EK [(2, (.bool r))] S0 R [] [] [] (K .ret))
  (hbrk : ∀ y : Int, o = .brk y → EK [] S0 R [(i1, .cells (c_Api_Filter a79))] [] [] (K (.exit 0))) :
  ∀ {n : Nat} {x78 : Int}, F70_L0 rc0 k a79 n x78 = some o → ∀ {σ : Nat → PV} {S : List SObj}, Known [(1, (.ptr i1 0)), (3, (.int .i64 x78))] σ → Hp S0 R S [(i1, .cells (c_Api_Filter a79))] [] [] → WC env ⟨104, S0.length⟩ (.loop pc70L0) σ S false K := by
 intro n
 induction n with
 | zero => intro _ h; cases h
 | succ n ih =>
  intro x78 h σ S  hk H
  rw [F70_L0] at h
  refine WC.loop <| WC.of_known hk <| WC.seq <| WC.seqR <| us 2 rfl <| wg H 0 rfl rfl rfl rfl <| wl rfl rfl rfl <| us 1 rfl <| WO.nil ?_
  rcases iteS h with ⟨hc89, h⟩ | ⟨hc89, h⟩
  refine WC.condT rfl hc89 <| WC.skip <| KX.seq_n <| WC.seq <| WC.block <| WC.seqR <| us 1 rfl <| wg H 0 rfl rfl rfl rfl <| us 1 rfl ?_
  obtain ⟨y85, hy85, h⟩ := bindS h
  refine w (.iptr (c_Api_Filter y85) 0) rfl (nz rfl (stp_idxAddr rfl (isSl_enc _ _) rfl rfl rfl hy85 (e_Api_Filter_cells _) rfl)) <| us 1 rfl ?_
  obtain ⟨y86, hy86, h⟩ := bindS h
  refine cl (.bool y86) [(.agg (c_Api_Filter y85))] rfl rfl rfl rfl (sv (hrc0 hy86)) <| us 1 rfl <| WO.nil ?_
  rcases iteS h with ⟨hc88, h⟩ | ⟨hc88, h⟩
  refine WC.condT rfl hc88 <| WC.seqR <| us 1 rfl <| WO.nil <| WC.ret <| KX.block_r <| KX.seq_r <| KX.seq_r ?_
  have h := oi h; subst h
  exact hret _ rfl kn (H.sub (.cons _ .slnil) .slnil .slnil)
  refine WC.condF rfl hc88 <| WC.skip <| KX.block_n <| KX.seq_n <| WC.region <| us 3 rfl <| WO.nil <| KX.seq_n ?_
  exact ih h  kn (hs H)
  refine WC.condF rfl hc89 <| WC.exit <| KX.seq_x <| KX.seq_x ?_
  have h := oi h; subst h
  exact hbrk _ rfl  known_nil (hs H)
theorem s70 : ∀ k : Nat, ∀ {a0 : Api_Filter} {r : Bool}, F70 k a0 = some r → Q 70 [(.agg (c_Api_Filter a0))] (.bool r) := by
 intro k
 induction k with
 | zero => intro _ r h; cases h
 | succ k ih =>
  intro a0 r h
  rw [F70] at h
  refine Qe.go (pf := fn70) rfl rfl (Nat.le_of_ble_eq_true rfl) (by simp [PV.clean, cleanL, clean_encSl clean_Api_Filter, clean_encSl clean_eS]) rfl rfl fun H => ?_
  refine WC.seqR <| WO.box' rfl rfl rfl rfl rfl H ?_
  intro i1 S hi1 H
  refine us 1 rfl <| WO.nil <| WC.seq <| WC.seqR <| us 1 rfl <| wg H 0 rfl rfl rfl rfl <| w (.bool (decide (a0.Kind ≥ 1))) rfl rfl <| w (.bool (decide (a0.Kind ≥ 1))) rfl rfl ?_
  refine WO.split 4 (SH H [(1, (.ptr i1 0)), (11, (.bool ((decide (a0.Kind ≥ 1)) && (decide (a0.Kind ≤ 3)))))]) ?_ ?_
  revert H
  cases hc2 : (decide (a0.Kind ≥ 1))
  intro H
  refine us 4 rfl <| WO.nil ?_
  exact kf H
  intro H
  refine us 1 rfl <| WO.go0 rfl rfl <| wg H 0 rfl rfl rfl rfl <| us 2 rfl <| WO.nil ?_
  exact kf H
  rintro σ S e ⟨hk, H, rfl⟩
  refine WO.of_known hk <| WO.nil ?_
  rcases iteS h with ⟨hc176, h⟩ | ⟨hc176, h⟩
  refine WC.condT rfl hc176 <| WC.seq <| WC.seqR <| us 1 rfl <| wg H 0 rfl rfl rfl rfl <| w (.bool (!(a0.Attr == []))) rfl rfl <| w (.bool (!(a0.Attr == []))) rfl rfl ?_
  refine WO.split 4 (SH H [(1, (.ptr i1 0)), (19, (.bool ((!(a0.Attr == [])) || (!(a0.Value == [])))))]) ?_ ?_
  revert H
  cases hc48 : (!(a0.Attr == []))
  intro H
  refine us 1 rfl <| WO.go0 rfl rfl <| wg H 0 rfl rfl rfl rfl <| us 2 rfl <| WO.nil ?_
  exact kf H
  intro H
  refine us 4 rfl <| WO.nil ?_
  exact kf H
  rintro σ S e ⟨hk, H, rfl⟩
  refine WO.of_known hk <| w (.bool ((!(a0.Attr == [])) || (!(a0.Value == [])))) rfl rfl ?_
  refine WO.split 5 (SH H [(1, (.ptr i1 0)), (25, (.bool (((!(a0.Attr == [])) || (!(a0.Value == []))) || (decide ((Sl.len a0.Subs) > 0)))))]) ?_ ?_
  revert H
  cases hc49 : ((!(a0.Attr == [])) || (!(a0.Value == [])))
  intro H
  refine us 1 rfl <| WO.go0 rfl rfl <| wg H 0 rfl rfl rfl rfl <| WO.go0 rfl rfl <| wl rfl rfl rfl <| us 2 rfl <| WO.nil ?_
  exact kf H
  intro H
  refine us 5 rfl <| WO.nil ?_
  exact kf H
  rintro σ S e ⟨hk, H, rfl⟩
  refine WO.of_known hk <| w (.bool (((!(a0.Attr == [])) || (!(a0.Value == []))) || (decide ((Sl.len a0.Subs) > 0)))) rfl rfl ?_
  refine WO.split 10 (SJ [(1, (.ptr i1 0)), (36, (.bool ((((!(a0.Attr == [])) || (!(a0.Value == []))) || (decide ((Sl.len a0.Subs) > 0))) || ((a0.Kind == 3) && ((Sl.len a0.Kids) != 1)))))] [] [] [(i1, .cells (c_Api_Filter a0))] [] [] false) ?_ ?_
  revert H
  cases hc52 : (((!(a0.Attr == [])) || (!(a0.Value == []))) || (decide ((Sl.len a0.Subs) > 0)))
  intro H
  refine us 1 rfl <| WO.go0 rfl rfl <| wg H 0 rfl rfl rfl rfl <| WO.go0 rfl rfl <| w (.bool (a0.Kind == 3)) rfl rfl <| WO.go0 rfl rfl <| w (.bool (a0.Kind == 3)) rfl rfl ?_
  refine WO.split 5 (SH H [(1, (.ptr i1 0)), (26, (.bool false)), (35, (.bool ((a0.Kind == 3) && ((Sl.len a0.Kids) != 1))))]) ?_ ?_
  revert H
  cases hc53 : (a0.Kind == 3)
  intro H
  refine us 5 rfl <| WO.nil ?_
  exact kf H
  intro H
  refine us 1 rfl <| WO.go0 rfl rfl <| wg H 0 rfl rfl rfl rfl <| WO.go0 rfl rfl <| wl rfl rfl rfl <| us 2 rfl <| WO.nil ?_
  exact kf H
  rintro σ S e ⟨hk, H, rfl⟩
  refine WO.of_known hk <| us 1 rfl <| WO.nil ?_
  exact kf H
  intro H
  refine us 4 rfl <| WO.by0 rfl rfl <| WO.by0 rfl rfl <| WO.by0 rfl rfl <| WO.by0 rfl rfl <| us 2 rfl <| WO.nil ?_
  exact kf H
  rintro σ S e ⟨hk, H, rfl⟩
  refine WO.of_known hk <| WO.nil ?_
  rcases iteS h with ⟨hc91, h⟩ | ⟨hc91, h⟩
  refine WC.condT rfl hc91 <| WC.seqR <| us 1 rfl <| WO.nil <| WC.ret <| KX.seq_r <| KX.seq_r ?_
  have h := oi h; subst h
  exact kr (.bool false) rfl rfl rfl
  refine WC.condF rfl hc91 <| WC.skip <| KX.seq_n <| WC.seq <| WC.seqR <| us 1 rfl <| WO.nil ?_
  obtain ⟨y90, hy90, hOy90⟩ := bindS h
  refine WC.block ?_
  refine l70_L0 ih hi1 ?_ ?_ hy90  kn (hs H)
  intro y90r he σ S  hk H; subst he; replace h := hOy90; dsimp only at h
  refine KX.of_known hk <| KX.block_r <| KX.seq_r <| KX.seq_r ?_
  have h := oi h; subst h
  exact kr (.bool y90r) rfl rfl rfl
  intro y90b he σ S  hk H; subst he; replace h := hOy90; dsimp only at h
  refine KX.of_known hk <| KX.block_x <| KX.seq_n <| WC.seqR <| us 1 rfl <| WO.nil <| WC.ret <| KX.seq_r ?_
  have h := oi h; subst h
  exact kr (.bool true) rfl rfl rfl
  refine WC.condF rfl hc176 <| WC.skip <| KX.seq_n <| WC.seq <| WC.seqR <| us 1 rfl <| wg H 0 rfl rfl rfl rfl <| w (.bool (decide (a0.Kind < 4))) rfl rfl <| w (.bool (decide (a0.Kind < 4))) rfl rfl ?_
  refine WO.split 4 (SH H [(1, (.ptr i1 0)), (58, (.bool ((decide (a0.Kind < 4)) || (decide (a0.Kind > 8)))))]) ?_ ?_
  revert H
  cases hc92 : (decide (a0.Kind < 4))
  intro H
  refine us 1 rfl <| WO.go0 rfl rfl <| wg H 0 rfl rfl rfl rfl <| us 2 rfl <| WO.nil ?_
  exact kf H
  intro H
  refine us 4 rfl <| WO.nil ?_
  exact kf H
  rintro σ S e ⟨hk, H, rfl⟩
  refine WO.of_known hk <| w (.bool ((decide (a0.Kind < 4)) || (decide (a0.Kind > 8)))) rfl rfl ?_
  refine WO.split 5 (SH H [(1, (.ptr i1 0)), (64, (.bool (((decide (a0.Kind < 4)) || (decide (a0.Kind > 8))) || (decide ((Sl.len a0.Kids) > 0)))))]) ?_ ?_
  revert H
  cases hc93 : ((decide (a0.Kind < 4)) || (decide (a0.Kind > 8)))
  intro H
  refine us 1 rfl <| WO.go0 rfl rfl <| wg H 0 rfl rfl rfl rfl <| WO.go0 rfl rfl <| wl rfl rfl rfl <| us 2 rfl <| WO.nil ?_
  exact kf H
  intro H
  refine us 5 rfl <| WO.nil ?_
  exact kf H
  rintro σ S e ⟨hk, H, rfl⟩
  refine WO.of_known hk <| w (.bool (((decide (a0.Kind < 4)) || (decide (a0.Kind > 8))) || (decide ((Sl.len a0.Kids) > 0)))) rfl rfl ?_
  obtain ⟨y98, hy98, hOy98⟩ := bindS h
  refine WO.split 5 (SJ [(1, (.ptr i1 0)), (70, (.bool y98))] [] [] [(i1, .cells (c_Api_Filter a0))] [] [] false) ?_ ?_
  replace h := hy98
  revert H
  cases hc100 : (((decide (a0.Kind < 4)) || (decide (a0.Kind > 8))) || (decide ((Sl.len a0.Kids) > 0)))
  intro H
  replace h := iteF h hc100
  refine us 1 rfl <| WO.go0 rfl rfl <| wg H 0 rfl rfl rfl rfl <| WO.go0 rfl rfl ?_
  obtain ⟨y99, hy99, h⟩ := bindS h
  refine cl (.bool y99) [(.str a0.Attr)] rfl rfl rfl rfl (s91 _ hy99 rfl) <| us 2 rfl <| WO.nil ?_
  have h := oi h; subst h
  exact kh H
  intro H
  replace h := iteT h hc100
  refine us 5 rfl <| WO.nil ?_
  have h := oi h; subst h
  exact kh H
  rintro σ S e ⟨hk, H, rfl⟩
  replace h := hOy98
  refine WO.of_known hk <| WO.nil ?_
  rcases iteS h with ⟨hc175, h⟩ | ⟨hc175, h⟩
  refine WC.condT rfl hc175 <| WC.seqR <| us 1 rfl <| WO.nil <| WC.ret <| KX.seq_r ?_
  have h := oi h; subst h
  exact kr (.bool false) rfl rfl rfl
  refine WC.condF rfl hc175 <| WC.skip <| KX.seq_n <| WC.seq <| WC.seqR <| us 1 rfl <| wg H 0 rfl rfl rfl rfl <| WO.nil <| WC.block <| WC.seqR <| us 2 rfl <| WO.nil ?_
  rcases iteS h with ⟨hc174, h⟩ | ⟨hc174, h⟩
  refine WC.condT rfl hc174 <| WC.seqR <| us 1 rfl <| wg H 0 rfl rfl rfl rfl <| w (.bool (a0.Value == [])) rfl rfl <| w (.bool (a0.Value == [])) rfl rfl ?_
  refine WO.split 5 (SH H [(83, (.bool ((a0.Value == []) && ((Sl.len a0.Subs) == 0))))]) ?_ ?_
  revert H
  cases hc156 : (a0.Value == [])
  intro H
  refine us 5 rfl <| WO.nil ?_
  exact kf H
  intro H
  refine us 1 rfl <| WO.go0 rfl rfl <| wg H 0 rfl rfl rfl rfl <| WO.go0 rfl rfl <| wl rfl rfl rfl <| us 2 rfl <| WO.nil ?_
  exact kf H
  rintro σ S e ⟨hk, H, rfl⟩
  refine WO.of_known hk <| us 1 rfl <| WO.nil <| WC.ret <| KX.block_r <| KX.seq_r ?_
  have h := oi h; subst h
  exact kr (.bool ((a0.Value == []) && ((Sl.len a0.Subs) == 0))) rfl rfl rfl
  refine WC.condF rfl hc174 <| WC.seqR <| us 2 rfl <| WO.nil ?_
  rcases iteS h with ⟨hc173, h⟩ | ⟨hc173, h⟩
  refine WC.condT rfl hc173 <| WC.seqR <| us 1 rfl <| wg H 0 rfl rfl rfl rfl <| w (.bool (a0.Value == [])) rfl rfl <| w (.bool (a0.Value == [])) rfl rfl ?_
  obtain ⟨y169, hy169, hOy169⟩ := bindS h
  refine WO.split 4 (SJ [(93, (.bool y169))] [] [] [(i1, .cells (c_Api_Filter a0))] [] [] false) ?_ ?_
  replace h := hy169
  revert H
  cases hc171 : (a0.Value == [])
  intro H
  replace h := iteF h hc171
  refine us 4 rfl <| WO.nil ?_
  have h := oi h; subst h
  exact kh H
  intro H
  replace h := iteT h hc171
  refine us 1 rfl <| WO.go0 rfl rfl <| wg H 0 rfl rfl rfl rfl <| WO.go0 rfl rfl ?_
  obtain ⟨y170, hy170, h⟩ := bindS h
  refine cl (.bool y170) [(encSl eS a0.Subs)] rfl rfl rfl (fe rfl rfl) (sv (s92 _ hy170)) <| us 1 rfl <| WO.nil ?_
  have h := oi h; subst h
  exact kh H
  rintro σ S e ⟨hk, H, rfl⟩
  replace h := hOy169
  refine WO.of_known hk <| us 1 rfl <| WO.nil <| WC.ret <| KX.block_r <| KX.seq_r ?_
  have h := oi h; subst h
  exact kr (.bool y169) rfl rfl rfl
  refine WC.condF rfl hc173 <| WC.skip <| KX.block_n <| KX.seq_n <| WC.seqR <| us 1 rfl <| wg H 0 rfl rfl rfl rfl <| us 1 rfl <| w (.bool (decide ((Str.len a0.Value) ≤ 60))) rfl rfl <| w (.bool (decide ((Str.len a0.Value) ≤ 60))) rfl rfl ?_
  refine WO.split 5 (SH H [(103, (.bool ((decide ((Str.len a0.Value) ≤ 60)) && ((Sl.len a0.Subs) == 0))))]) ?_ ?_
  revert H
  cases hc172 : (decide ((Str.len a0.Value) ≤ 60))
  intro H
  refine us 5 rfl <| WO.nil ?_
  exact kf H
  intro H
  refine us 1 rfl <| WO.go0 rfl rfl <| wg H 0 rfl rfl rfl rfl <| WO.go0 rfl rfl <| wl rfl rfl rfl <| us 2 rfl <| WO.nil ?_
  exact kf H
  rintro σ S e ⟨hk, H, rfl⟩
  refine WO.of_known hk <| us 1 rfl <| WO.nil <| WC.ret ?_
  have h := oi h; subst h
  exact kr (.bool ((decide ((Str.len a0.Value) ≤ 60)) && ((Sl.len a0.Subs) == 0))) rfl rfl rfl
def F37 (k : Nat) (a0 : Api_Filter) : Option Bool :=
 Option.bind (F69 k a0) fun y2 =>
 Option.bind (if decide (y2 ≤ 20) then
 Option.bind (F70 k a0) fun y8 =>
 some y8
 else
 some false) fun y7 =>
 some y7
theorem s37 : ∀ k : Nat, ∀ {a0 : Api_Filter} {r : Bool}, F37 k a0 = some r → Q 37 [(.agg (c_Api_Filter a0))] (.bool r) := by
 intro k a0 r h
 unfold F37 at h
 refine Qe.go (pf := fn37) rfl rfl (Nat.le_of_ble_eq_true rfl) (by simp [PV.clean, cleanL, clean_encSl clean_Api_Filter, clean_encSl clean_eS]) rfl rfl fun H => ?_
 refine WC.seqR <| WO.box' rfl rfl rfl rfl rfl H ?_
 intro i1 S hi1 H
 refine us 1 rfl <| WO.nil <| WC.seqR <| wg H 0 rfl rfl rfl rfl ?_
 obtain ⟨y2, hy2, h⟩ := bindS h
 refine cl (.int .i64 y2) [(.agg (c_Api_Filter a0))] rfl rfl rfl rfl (sv (s69 _ hy2)) <| w (.bool (decide (y2 ≤ 20))) rfl rfl <| w (.bool (decide (y2 ≤ 20))) rfl rfl ?_
 obtain ⟨y7, hy7, hOy7⟩ := bindS h
 refine WO.split 3 (SJ [(9, (.bool y7))] [] [] [(i1, .cells (c_Api_Filter a0))] [] [] false) ?_ ?_
 replace h := hy7
 revert H
 cases hc9 : (decide (y2 ≤ 20))
 intro H
 replace h := iteF h hc9
 refine us 3 rfl <| WO.nil ?_
 have h := oi h; subst h
 exact kh H
 intro H
 replace h := iteT h hc9
 refine WO.go0 rfl rfl <| wg H 0 rfl rfl rfl rfl <| WO.go0 rfl rfl ?_
 obtain ⟨y8, hy8, h⟩ := bindS h
 refine cl (.bool y8) [(.agg (c_Api_Filter a0))] rfl rfl rfl rfl (sv (s70 _ hy8)) <| us 1 rfl <| WO.nil ?_
 have h := oi h; subst h
 exact kh H
 rintro σ S e ⟨hk, H, rfl⟩
 replace h := hOy7
 refine WO.of_known hk <| us 1 rfl <| WO.nil <| WC.ret ?_
 have h := oi h; subst h
 exact kr (.bool y7) rfl rfl rfl
def F12 (k : Nat) (a0 : Api_Msg) : Option Bool :=
 Option.bind (if (((decide (a0.Op < 1)) || (decide (a0.Op > 10))) || (decide (a0.ID < 0))) || (decide (a0.ID > 2147483647)) then
 some true
 else
 Option.bind (F34 k a0) fun y9 =>
 Option.bind (F14 k a0 y9) fun y10 =>
 some (!y10)) fun y8 =>
 if y8 then
 some false
 else
 Option.bind (F35 k (some [a0.DN, a0.Pass, a0.RDN, a0.Sup, a0.Attr, a0.Value, a0.Matched])) fun y14 =>
 Option.bind (if !y14 then
 some true
 else
 Option.bind (F35 k a0.Wants) fun y20 =>
 some (!y20)) fun y19 =>
 Option.bind (if y19 then
 some true
 else
 Option.bind (F36 k a0.Mods (a0.Op == 4)) fun y27 =>
 some (!y27)) fun y26 =>
 if y26 then
 some false
 else
 if a0.Op == 1 then
 some ((decide (a0.Version ≥ 1)) && (decide (a0.Version ≤ 127)))
 else
 if a0.Op == 3 then
 Option.bind (if (((decide (a0.Scope ≥ 0)) && (decide (a0.Scope ≤ 2))) && (decide (a0.Size ≥ 0))) && (decide (a0.Size ≤ 2147483647)) then
 Option.bind (F37 k a0.Filter) fun y192 =>
 some y192
 else
 some false) fun y191 =>
 some y191
 else
 if a0.Op == 9 then
 some (((((decide (a0.Of ≥ 1)) && (decide (a0.Of ≤ 8))) && (a0.Of != 2)) && (decide (a0.Code ≥ 0))) && (decide (a0.Code ≤ 127)))
 else
 some true
theorem s12 : ∀ k : Nat, ∀ {a0 : Api_Msg} {r : Bool}, F12 k a0 = some r → Q 12 [(.agg (c_Api_Msg a0))] (.bool r) := by
 intro k a0 r h
 unfold F12 at h
 refine Qe.go (pf := fn12) rfl rfl (Nat.le_of_ble_eq_true rfl) (by simp [PV.clean, cleanL, clean_encSl clean_Api_Filter, clean_encSl clean_Api_Mod, clean_encSl clean_eS]) rfl rfl fun H => ?_
 refine WC.seqR <| WO.box' rfl rfl rfl rfl rfl H ?_
 intro i1 S hi1 H
 refine us 1 rfl <| WO.nil <| WC.seq <| WC.seq <| WC.draw <| wh (.ptr i1 1) rfl rfl <| WH.step (v := .int .i64 a0.Op) rfl (nz rfl (stp_load rfl (H.get 0 rfl) rfl)) rfl rfl <| WH.step (v := (.bool (decide (a0.Op < 1)))) rfl (nz rfl rfl) rfl rfl <| WH.step (v := (.bool (decide (a0.Op < 1)))) rfl (nz rfl rfl) rfl rfl ?_
 refine WH.split 4 (fun σ' => Known ([(1, (.ptr i1 0)), (10, (.bool ((decide (a0.Op < 1)) || (decide (a0.Op > 10)))))]) σ') ?_ ?_
 revert H
 cases hc2 : (decide (a0.Op < 1))
 intro H
 refine WH.go0 rfl rfl <| wh (.ptr i1 1) rfl rfl <| WH.go0 rfl rfl <| WH.step (v := .int .i64 a0.Op) rfl (nz rfl (stp_load rfl (H.get 0 rfl) rfl)) rfl rfl <| WH.go0 rfl rfl <| WH.step (v := (.bool (decide (a0.Op > 10)))) rfl (nz rfl rfl) rfl rfl <| WH.step (v := (.bool (decide (a0.Op > 10)))) rfl (nz rfl rfl) rfl rfl <| WH.nil ?_
 exact kn
 intro H
 refine WH.by rfl rfl rfl <| WH.by rfl rfl rfl <| WH.by rfl rfl rfl <| wh (.bool true) rfl rfl <| WH.nil ?_
 exact kn
 intro σ hk
 refine WH.of_known hk <| WH.step (v := (.bool ((decide (a0.Op < 1)) || (decide (a0.Op > 10))))) rfl (nz rfl rfl) rfl rfl ?_
 refine WH.split 4 (fun σ' => Known ([(1, (.ptr i1 0)), (15, (.bool (((decide (a0.Op < 1)) || (decide (a0.Op > 10))) || (decide (a0.ID < 0)))))]) σ') ?_ ?_
 revert H
 cases hc3 : ((decide (a0.Op < 1)) || (decide (a0.Op > 10)))
 intro H
 refine WH.go0 rfl rfl <| wh (.ptr i1 0) rfl rfl <| WH.go0 rfl rfl <| WH.step (v := .int .i64 a0.ID) rfl (nz rfl (stp_load rfl (H.get 0 rfl) rfl)) rfl rfl <| WH.go0 rfl rfl <| WH.step (v := (.bool (decide (a0.ID < 0)))) rfl (nz rfl rfl) rfl rfl <| WH.step (v := (.bool (decide (a0.ID < 0)))) rfl (nz rfl rfl) rfl rfl <| WH.nil ?_
 exact kn
 intro H
 refine WH.by rfl rfl rfl <| WH.by rfl rfl rfl <| WH.by rfl rfl rfl <| wh (.bool true) rfl rfl <| WH.nil ?_
 exact kn
 intro σ hk
 refine WH.of_known hk <| WH.step (v := (.bool (((decide (a0.Op < 1)) || (decide (a0.Op > 10))) || (decide (a0.ID < 0))))) rfl (nz rfl rfl) rfl rfl ?_
 refine WH.split 4 (fun σ' => Known ([(1, (.ptr i1 0)), (20, (.bool ((((decide (a0.Op < 1)) || (decide (a0.Op > 10))) || (decide (a0.ID < 0))) || (decide (a0.ID > 2147483647)))))]) σ') ?_ ?_
 revert H
 cases hc4 : (((decide (a0.Op < 1)) || (decide (a0.Op > 10))) || (decide (a0.ID < 0)))
 intro H
 refine WH.go0 rfl rfl <| wh (.ptr i1 0) rfl rfl <| WH.go0 rfl rfl <| WH.step (v := .int .i64 a0.ID) rfl (nz rfl (stp_load rfl (H.get 0 rfl) rfl)) rfl rfl <| WH.go0 rfl rfl <| WH.step (v := (.bool (decide (a0.ID > 2147483647)))) rfl (nz rfl rfl) rfl rfl <| WH.step (v := (.bool (decide (a0.ID > 2147483647)))) rfl (nz rfl rfl) rfl rfl <| WH.nil ?_
 exact kn
 intro H
 refine WH.by rfl rfl rfl <| WH.by rfl rfl rfl <| WH.by rfl rfl rfl <| wh (.bool true) rfl rfl <| WH.nil ?_
 exact kn
 intro σ hk
 refine WH.of_known hk <| WH.step (v := (.bool ((((decide (a0.Op < 1)) || (decide (a0.Op > 10))) || (decide (a0.ID < 0))) || (decide (a0.ID > 2147483647))))) rfl (nz rfl rfl) rfl rfl ?_
 obtain ⟨y8, hy8, hOy8⟩ := bindS h
 refine WD.split 3 (SJ [(1, (.ptr i1 0)), (27, (.bool y8))] [] [] [(i1, .cells (c_Api_Msg a0))] [] [] false) ?_ ?_
 replace h := hy8
 revert H
 cases hc11 : ((((decide (a0.Op < 1)) || (decide (a0.Op > 10))) || (decide (a0.ID < 0))) || (decide (a0.ID > 2147483647)))
 intro H
 replace h := iteF h hc11
 refine WH.go0 rfl rfl <| WH.step (v := (.agg (c_Api_Msg a0))) rfl (nz rfl (stp_load rfl (H.get 0 rfl) rfl)) rfl rfl <| WH.go0 rfl rfl <| WH.step (v := (.agg (c_Api_Msg a0))) rfl (nz rfl (stp_load rfl (H.get 0 rfl) rfl)) rfl rfl <| WH.go0 rfl rfl ?_
 obtain ⟨y9, hy9, h⟩ := bindS h
 refine WH.step (v := (.agg (c_Api_Msg y9))) rfl (nz rfl (stp_call (vs := [(.agg (c_Api_Msg a0))]) rfl rfl (s34 _ hy9 (by simp only [st_agg, List.map_cons, List.map_nil, st1_int, st1_str, strip1_enc, st1_bool, tupled, e_Api_Msg]) _))) rfl rfl <| WH.nil <| WO.go0 rfl rfl ?_
 obtain ⟨y10, hy10, h⟩ := bindS h
 refine cl (.bool y10) [(.agg (c_Api_Msg a0)), (.agg (c_Api_Msg y9))] rfl rfl rfl rfl (sv (s14 _ hy10)) <| us 2 rfl <| WO.nil ?_
 have h := oi h; subst h
 exact kh H
 intro H
 replace h := iteT h hc11
 refine WH.by rfl rfl rfl <| WH.by rfl rfl rfl <| WH.by rfl rfl rfl <| WH.nil <| us 3 rfl <| WO.nil ?_
 have h := oi h; subst h
 exact kh H
 rintro σ S e ⟨hk, H, rfl⟩
 replace h := hOy8
 refine WO.of_known hk <| WO.nil <| KX.seq_n ?_
 rcases iteS h with ⟨hc207, h⟩ | ⟨hc207, h⟩
 refine WC.condT rfl hc207 <| WC.seqR <| us 1 rfl <| WO.nil <| WC.ret <| KX.seq_r ?_
 have h := oi h; subst h
 exact kr (.bool false) rfl rfl rfl
 refine WC.condF rfl hc207 <| WC.skip <| KX.seq_n <| WC.seq <| WC.seqR <| us 1 rfl <| wg H 0 rfl rfl rfl rfl <| us 1 rfl <| wg H 0 rfl rfl rfl rfl <| us 1 rfl <| wg H 0 rfl rfl rfl rfl <| us 1 rfl <| wg H 0 rfl rfl rfl rfl <| us 1 rfl <| wg H 0 rfl rfl rfl rfl <| us 1 rfl <| wg H 0 rfl rfl rfl rfl <| us 1 rfl <| wg H 0 rfl rfl rfl rfl <| WS rfl (nz rfl (stp_buildSlice (ys := [a0.DN, a0.Pass, a0.RDN, a0.Sup, a0.Attr, a0.Value, a0.Matched]) (f := eS) (parts := [(0, (.str a0.DN)), (1, (.str a0.Pass)), (2, (.str a0.RDN)), (3, (.str a0.Sup)), (4, (.str a0.Attr)), (5, (.str a0.Value)), (6, (.str a0.Matched))]) rfl rfl rfl rfl rfl rfl (fc ⟨rfl, rfl⟩ (fc ⟨rfl, rfl⟩ (fc ⟨rfl, rfl⟩ (fc ⟨rfl, rfl⟩ (fc ⟨rfl, rfl⟩ (fc ⟨rfl, rfl⟩ (fc ⟨rfl, rfl⟩ (fun p hp => nomatch hp)))))))) rfl)) ?_
 have hv13 : IsSl eS (some [a0.DN, a0.Pass, a0.RDN, a0.Sup, a0.Attr, a0.Value, a0.Matched]) _ := ⟨.full, rfl⟩
 obtain ⟨y14, hy14, h⟩ := bindS h
 refine cl (.bool y14) [(.lst (List.map eS [a0.DN, a0.Pass, a0.RDN, a0.Sup, a0.Attr, a0.Value, a0.Matched]) .full)] rfl rfl rfl (fz_tmp' hv13.frz rfl) (s35 _ hy14 (by simp only [hv13.strip, st_lst, encSl_some, eI, eB, eS, List.map_cons, List.map_nil, tupled])) <| w (.bool (!y14)) rfl rfl <| w (.bool (!y14)) rfl rfl ?_
 obtain ⟨y19, hy19, hOy19⟩ := bindS h
 refine WO.split 5 (SJ [(1, (.ptr i1 0)), (50, (.bool y19))] [] [] [(i1, .cells (c_Api_Msg a0))] [] [] false) ?_ ?_
 replace h := hy19
 revert H
 cases hc21 : (!y14)
 intro H
 replace h := iteF h hc21
 refine us 1 rfl <| WO.go0 rfl rfl <| wg H 0 rfl rfl rfl rfl <| WO.go0 rfl rfl ?_
 obtain ⟨y20, hy20, h⟩ := bindS h
 refine cl (.bool y20) [(encSl eS a0.Wants)] rfl rfl rfl (fe rfl rfl) (sv (s35 _ hy20)) <| us 2 rfl <| WO.nil ?_
 have h := oi h; subst h
 exact kh H
 intro H
 replace h := iteT h hc21
 refine us 5 rfl <| WO.nil ?_
 have h := oi h; subst h
 exact kh H
 rintro σ S e ⟨hk, H, rfl⟩
 replace h := hOy19
 refine WO.of_known hk <| us 1 rfl ?_
 obtain ⟨y26, hy26, hOy26⟩ := bindS h
 refine WO.split 8 (SJ [(1, (.ptr i1 0)), (59, (.bool y26))] [] [] [(i1, .cells (c_Api_Msg a0))] [] [] false) ?_ ?_
 replace h := hy26
 revert H
 cases hc28 : y19
 intro H
 replace h := iteF h hc28
 refine us 1 rfl <| WO.go0 rfl rfl <| wg H 0 rfl rfl rfl rfl <| us 1 rfl <| WO.go0 rfl rfl <| wg H 0 rfl rfl rfl rfl <| us 1 rfl <| WO.go0 rfl rfl ?_
 obtain ⟨y27, hy27, h⟩ := bindS h
 refine cl (.bool y27) [(encSl e_Api_Mod a0.Mods), (.bool (a0.Op == 4))] rfl rfl rfl (fe rfl (fz_tmp' rfl rfl)) (sv (s36 _ hy27)) <| us 2 rfl <| WO.nil ?_
 have h := oi h; subst h
 exact kh H
 intro H
 replace h := iteT h hc28
 refine us 8 rfl <| WO.nil ?_
 have h := oi h; subst h
 exact kh H
 rintro σ S e ⟨hk, H, rfl⟩
 replace h := hOy26
 refine WO.of_known hk <| WO.nil ?_
 rcases iteS h with ⟨hc206, h⟩ | ⟨hc206, h⟩
 refine WC.condT rfl hc206 <| WC.seqR <| us 1 rfl <| WO.nil <| WC.ret <| KX.seq_r ?_
 have h := oi h; subst h
 exact kr (.bool false) rfl rfl rfl
 refine WC.condF rfl hc206 <| WC.skip <| KX.seq_n <| WC.seq <| WC.seqR <| us 1 rfl <| wg H 0 rfl rfl rfl rfl <| WO.nil <| WC.block <| WC.seqR <| us 2 rfl <| WO.nil ?_
 rcases iteS h with ⟨hc205, h⟩ | ⟨hc205, h⟩
 refine WC.condT rfl hc205 <| WC.seqR <| us 1 rfl <| wg H 0 rfl rfl rfl rfl <| w (.bool (decide (a0.Version ≥ 1))) rfl rfl <| w (.bool (decide (a0.Version ≥ 1))) rfl rfl ?_
 refine WO.split 4 (SH H [(71, (.bool ((decide (a0.Version ≥ 1)) && (decide (a0.Version ≤ 127)))))]) ?_ ?_
 revert H
 cases hc162 : (decide (a0.Version ≥ 1))
 intro H
 refine us 4 rfl <| WO.nil ?_
 exact kf H
 intro H
 refine us 1 rfl <| WO.go0 rfl rfl <| wg H 0 rfl rfl rfl rfl <| us 2 rfl <| WO.nil ?_
 exact kf H
 rintro σ S e ⟨hk, H, rfl⟩
 refine WO.of_known hk <| us 1 rfl <| WO.nil <| WC.ret <| KX.block_r <| KX.seq_r ?_
 have h := oi h; subst h
 exact kr (.bool ((decide (a0.Version ≥ 1)) && (decide (a0.Version ≤ 127)))) rfl rfl rfl
 refine WC.condF rfl hc205 <| WC.seqR <| us 2 rfl <| WO.nil ?_
 rcases iteS h with ⟨hc204, h⟩ | ⟨hc204, h⟩
 refine WC.condT rfl hc204 <| WC.seqR <| us 1 rfl <| wg H 0 rfl rfl rfl rfl <| w (.bool (decide (a0.Scope ≥ 0))) rfl rfl <| w (.bool (decide (a0.Scope ≥ 0))) rfl rfl ?_
 refine WO.split 4 (SH H [(1, (.ptr i1 0)), (81, (.bool ((decide (a0.Scope ≥ 0)) && (decide (a0.Scope ≤ 2)))))]) ?_ ?_
 revert H
 cases hc184 : (decide (a0.Scope ≥ 0))
 intro H
 refine us 4 rfl <| WO.nil ?_
 exact kf H
 intro H
 refine us 1 rfl <| WO.go0 rfl rfl <| wg H 0 rfl rfl rfl rfl <| us 2 rfl <| WO.nil ?_
 exact kf H
 rintro σ S e ⟨hk, H, rfl⟩
 refine WO.of_known hk <| w (.bool ((decide (a0.Scope ≥ 0)) && (decide (a0.Scope ≤ 2)))) rfl rfl ?_
 refine WO.split 4 (SH H [(1, (.ptr i1 0)), (86, (.bool (((decide (a0.Scope ≥ 0)) && (decide (a0.Scope ≤ 2))) && (decide (a0.Size ≥ 0)))))]) ?_ ?_
 revert H
 cases hc185 : ((decide (a0.Scope ≥ 0)) && (decide (a0.Scope ≤ 2)))
 intro H
 refine us 4 rfl <| WO.nil ?_
 exact kf H
 intro H
 refine us 1 rfl <| WO.go0 rfl rfl <| wg H 0 rfl rfl rfl rfl <| us 2 rfl <| WO.nil ?_
 exact kf H
 rintro σ S e ⟨hk, H, rfl⟩
 refine WO.of_known hk <| w (.bool (((decide (a0.Scope ≥ 0)) && (decide (a0.Scope ≤ 2))) && (decide (a0.Size ≥ 0)))) rfl rfl ?_
 refine WO.split 4 (SH H [(1, (.ptr i1 0)), (91, (.bool ((((decide (a0.Scope ≥ 0)) && (decide (a0.Scope ≤ 2))) && (decide (a0.Size ≥ 0))) && (decide (a0.Size ≤ 2147483647)))))]) ?_ ?_
 revert H
 cases hc186 : (((decide (a0.Scope ≥ 0)) && (decide (a0.Scope ≤ 2))) && (decide (a0.Size ≥ 0)))
 intro H
 refine us 4 rfl <| WO.nil ?_
 exact kf H
 intro H
 refine us 1 rfl <| WO.go0 rfl rfl <| wg H 0 rfl rfl rfl rfl <| us 2 rfl <| WO.nil ?_
 exact kf H
 rintro σ S e ⟨hk, H, rfl⟩
 refine WO.of_known hk <| w (.bool ((((decide (a0.Scope ≥ 0)) && (decide (a0.Scope ≤ 2))) && (decide (a0.Size ≥ 0))) && (decide (a0.Size ≤ 2147483647)))) rfl rfl ?_
 obtain ⟨y191, hy191, hOy191⟩ := bindS h
 refine WO.split 4 (SJ [(96, (.bool y191))] [] [] [(i1, .cells (c_Api_Msg a0))] [] [] false) ?_ ?_
 replace h := hy191
 revert H
 cases hc193 : ((((decide (a0.Scope ≥ 0)) && (decide (a0.Scope ≤ 2))) && (decide (a0.Size ≥ 0))) && (decide (a0.Size ≤ 2147483647)))
 intro H
 replace h := iteF h hc193
 refine us 4 rfl <| WO.nil ?_
 have h := oi h; subst h
 exact kh H
 intro H
 replace h := iteT h hc193
 refine us 1 rfl <| WO.go0 rfl rfl <| wg H 0 rfl rfl rfl rfl <| WO.go0 rfl rfl ?_
 obtain ⟨y192, hy192, h⟩ := bindS h
 refine cl (.bool y192) [(.agg (c_Api_Filter a0.Filter))] rfl rfl rfl rfl (sv (s37 _ hy192)) <| us 1 rfl <| WO.nil ?_
 have h := oi h; subst h
 exact kh H
 rintro σ S e ⟨hk, H, rfl⟩
 replace h := hOy191
 refine WO.of_known hk <| us 1 rfl <| WO.nil <| WC.ret <| KX.block_r <| KX.seq_r ?_
 have h := oi h; subst h
 exact kr (.bool y191) rfl rfl rfl
 refine WC.condF rfl hc204 <| WC.seqR <| us 2 rfl <| WO.nil ?_
 rcases iteS h with ⟨hc203, h⟩ | ⟨hc203, h⟩
 refine WC.condT rfl hc203 <| WC.seqR <| us 1 rfl <| wg H 0 rfl rfl rfl rfl <| w (.bool (decide (a0.Of ≥ 1))) rfl rfl <| w (.bool (decide (a0.Of ≥ 1))) rfl rfl ?_
 refine WO.split 4 (SH H [(1, (.ptr i1 0)), (106, (.bool ((decide (a0.Of ≥ 1)) && (decide (a0.Of ≤ 8)))))]) ?_ ?_
 revert H
 cases hc199 : (decide (a0.Of ≥ 1))
 intro H
 refine us 4 rfl <| WO.nil ?_
 exact kf H
 intro H
 refine us 1 rfl <| WO.go0 rfl rfl <| wg H 0 rfl rfl rfl rfl <| us 2 rfl <| WO.nil ?_
 exact kf H
 rintro σ S e ⟨hk, H, rfl⟩
 refine WO.of_known hk <| w (.bool ((decide (a0.Of ≥ 1)) && (decide (a0.Of ≤ 8)))) rfl rfl ?_
 refine WO.split 4 (SH H [(1, (.ptr i1 0)), (111, (.bool (((decide (a0.Of ≥ 1)) && (decide (a0.Of ≤ 8))) && (a0.Of != 2))))]) ?_ ?_
 revert H
 cases hc200 : ((decide (a0.Of ≥ 1)) && (decide (a0.Of ≤ 8)))
 intro H
 refine us 4 rfl <| WO.nil ?_
 exact kf H
 intro H
 refine us 1 rfl <| WO.go0 rfl rfl <| wg H 0 rfl rfl rfl rfl <| us 2 rfl <| WO.nil ?_
 exact kf H
 rintro σ S e ⟨hk, H, rfl⟩
 refine WO.of_known hk <| w (.bool (((decide (a0.Of ≥ 1)) && (decide (a0.Of ≤ 8))) && (a0.Of != 2))) rfl rfl ?_
 refine WO.split 4 (SH H [(1, (.ptr i1 0)), (116, (.bool ((((decide (a0.Of ≥ 1)) && (decide (a0.Of ≤ 8))) && (a0.Of != 2)) && (decide (a0.Code ≥ 0)))))]) ?_ ?_
 revert H
 cases hc201 : (((decide (a0.Of ≥ 1)) && (decide (a0.Of ≤ 8))) && (a0.Of != 2))
 intro H
 refine us 4 rfl <| WO.nil ?_
 exact kf H
 intro H
 refine us 1 rfl <| WO.go0 rfl rfl <| wg H 0 rfl rfl rfl rfl <| us 2 rfl <| WO.nil ?_
 exact kf H
 rintro σ S e ⟨hk, H, rfl⟩
 refine WO.of_known hk <| w (.bool ((((decide (a0.Of ≥ 1)) && (decide (a0.Of ≤ 8))) && (a0.Of != 2)) && (decide (a0.Code ≥ 0)))) rfl rfl ?_
 refine WO.split 4 (SH H [(121, (.bool (((((decide (a0.Of ≥ 1)) && (decide (a0.Of ≤ 8))) && (a0.Of != 2)) && (decide (a0.Code ≥ 0))) && (decide (a0.Code ≤ 127)))))]) ?_ ?_
 revert H
 cases hc202 : ((((decide (a0.Of ≥ 1)) && (decide (a0.Of ≤ 8))) && (a0.Of != 2)) && (decide (a0.Code ≥ 0)))
 intro H
 refine us 4 rfl <| WO.nil ?_
 exact kf H
 intro H
 refine us 1 rfl <| WO.go0 rfl rfl <| wg H 0 rfl rfl rfl rfl <| us 2 rfl <| WO.nil ?_
 exact kf H
 rintro σ S e ⟨hk, H, rfl⟩
 refine WO.of_known hk <| us 1 rfl <| WO.nil <| WC.ret <| KX.block_r <| KX.seq_r ?_
 have h := oi h; subst h
 exact kr (.bool (((((decide (a0.Of ≥ 1)) && (decide (a0.Of ≤ 8))) && (a0.Of != 2)) && (decide (a0.Code ≥ 0))) && (decide (a0.Code ≤ 127)))) rfl rfl rfl
 refine WC.condF rfl hc203 <| WC.skip <| KX.block_n <| KX.seq_n <| WC.seqR <| us 1 rfl <| WO.nil <| WC.ret ?_
 have h := oi h; subst h
 exact kr (.bool true) rfl rfl rfl
end Go.Proofs.YtbinlabnilidiaaGreatDoor.M
