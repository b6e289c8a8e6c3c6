/- Part of the proof: the runs of functions on the abstract machine. -/
import Derived.Test.YtbinlabnilidiaaGreatDoorPamM4
import Derived.Test.YtbinlabnilidiaaGreatDoorFns
import Derived.Test.YtbinlabnilidiaaGreatDoorMDe
import Derived.Test.YtbinlabnilidiaaGreatDoorMDc
import Derived.Test.YtbinlabnilidiaaGreatDoorMDc1
import Derived.Test.YtbinlabnilidiaaGreatDoorMDr
namespace Go.Proofs.YtbinlabnilidiaaGreatDoor.M
open Go Go.Pam Go.RowKit Go.WideShapes
set_option maxRecDepth 8000
set_option linter.unusedVariables false
set_option linter.unusedSimpArgs false
def Xgj (rc0 : Xae → Option Bool) (k : Nat) (a1 : Xae) : Nat → Int → Option (Out Bool Int)
 | 0, _ => none
 | n + 1, x2 =>
  if decide (x2 < (Sl.len a1.Kids)) then
  (Sl.at? a1.Kids x2).bind fun y3 =>
  (rc0 y3).bind fun y4 =>
  if !y4 then
  some (Out.ret false)
  else
  Xgj rc0 k a1 n (ad .i64 x2 1)
  else
  some (Out.brk x2)
def F70 : Nat → Xae → Option Bool
 | 0, _ => none
 | k + 1, a0 =>
  if (decide (a0.Kind ≥ 1)) && (decide (a0.Kind ≤ 3)) then
  if (((!(a0.Attr == [])) || (!(a0.Value == []))) || (decide ((Sl.len a0.Subs) > 0))) || ((a0.Kind == 3) && ((Sl.len a0.Kids) != 1)) then
  some false
  else
  (Xgj (F70 k) k a0 k 0).bind fun y1 =>
  match y1 with
  | .ret y1r => some y1r
  | .brk y1b =>
  some true
  else
  (if ((decide (a0.Kind < 4)) || (decide (a0.Kind > 8))) || (decide ((Sl.len a0.Kids) > 0)) then
  some true
  else
  (F91 k a0.Attr).bind fun y2 =>
  some (!y2)).bind fun y3 =>
  if y3 then
  some false
  else
  if a0.Kind == 7 then
  some ((a0.Value == []) && ((Sl.len a0.Subs) == 0))
  else
  if a0.Kind == 8 then
  (if a0.Value == [] then
  (F92 k a0.Subs).bind fun y4 =>
  some y4
  else
  some false).bind fun y5 =>
  some y5
  else
  some ((decide ((Str.len a0.Value) ≤ 60)) && ((Sl.len a0.Subs) == 0))
theorem Xs5 {rc0 : Xae → Option Bool} (hrc0 : ∀ {a0 : Xae} {r : Bool}, rc0 a0 = some r → Q 70 [(.agg (Xag a0))] (.bool r)) {k : Nat} {a2 : Xae} {S0 : List SObj} {R : List Nat} {K : KX} {i1 : Nat} (hi1 : S0.length ≤ i1)  {o : Out Bool Int}
  (hret : ∀ r : Bool, o = .ret r → EK [(2, (.bool r))] S0 R [] [] [] (K .ret))
  (hbrk : ∀ y : Int, o = .brk y → EK [] S0 R [(i1, .cells (Xag a2))] [] [] (K (.exit 0))) :
  ∀ {n : Nat} {x3 : Int}, Xgj rc0 k a2 n x3 = some o → ∀ {σ : Nat → PV} {S : List SObj}, Xa2 [(1, (.ptr i1 0)), (3, (.int .i64 x3))] σ → Hp S0 R S [(i1, .cells (Xag a2))] [] [] → WC env ⟨104, S0.length⟩ (.loop Xr2) σ S false K := by
 intro n
 induction n with
 | zero => intro _ h; cases h
 | succ n ih =>
  intro x3 h σ S  hk H
  rw [Xgj] at h
  refine b_ <| X_ hk <| I_ <| B_ <| us 2 rfl <| Wg H 0 rfl <| Wl rfl <| us 1 rfl <| A_ ?_
  rcases Xa1 h with ⟨hc4, h⟩ | ⟨hc4, h⟩
  refine F_ rfl hc4 <| M_ <| C_ <| I_ <| R_ <| B_ <| us 1 rfl <| Wg H 0 rfl <| us 1 rfl ?_
  obtain ⟨y5, hy5, h⟩ := Xaf h
  refine Wx hy5 (XaA _) rfl <| us 1 rfl ?_
  obtain ⟨y6, hy6, h⟩ := Xaf h
  refine Cl (.bool y6) [(.agg (Xag y5))] rfl rfl (sv (hrc0 hy6)) <| us 1 rfl <| A_ ?_
  rcases Xa1 h with ⟨hc7, h⟩ | ⟨hc7, h⟩
  refine F_ rfl hc7 <| B_ <| us 1 rfl <| A_ <| Q_ <| P_ <| H_ <| H_ ?_
  cases oi h
  exact hret _ rfl kn (H.sub (.cons _ .slnil) .slnil .slnil)
  refine G_ rfl hc7 <| M_ <| V_ <| C_ <| S_ <| us 3 rfl <| A_ <| C_ ?_
  exact ih h  kn (hs H)
  refine G_ rfl hc4 <| Y_ <| K_ <| K_ ?_
  cases oi h
  exact hbrk _ rfl  m_ (hs H)
theorem s70 : ∀ k : Nat, ∀ {a0 : Xae} {r : Bool}, F70 k a0 = some r → Q 70 [(.agg (Xag a0))] (.bool r) := by
 intro k
 induction k with
 | zero => intro _ r h; cases h
 | succ k ih =>
  intro a0 r h
  rw [F70] at h
  refine Qg (pf := Xv6) rfl cq rfl fun H => ?_
  refine B_ <| Wb H rfl ?_
  intro i1 S hi1 H
  refine us 1 rfl <| A_ <| I_ <| B_ <| us 1 rfl <| Wg H 0 rfl <| w (.bool (decide (a0.Kind ≥ 1))) rfl rfl <| w (.bool (decide (a0.Kind ≥ 1))) rfl rfl ?_
  refine O_ 4 (SH H [(1, (.ptr i1 0)), (11, (.bool ((decide (a0.Kind ≥ 1)) && (decide (a0.Kind ≤ 3)))))]) ?_ ?_
  revert H
  cases hc2 : (decide (a0.Kind ≥ 1))
  intro H
  refine us 4 rfl <| A_ ?_
  exact kf H
  intro H
  refine us 1 rfl <| N_ rfl rfl <| Wg H 0 rfl <| us 2 rfl <| A_ ?_
  exact kf H
  rintro σ S e ⟨hk, H, rfl⟩
  refine E_ hk <| A_ ?_
  rcases Xa1 h with ⟨hc3, h⟩ | ⟨hc3, h⟩
  refine F_ rfl hc3 <| I_ <| B_ <| us 1 rfl <| Wg H 0 rfl <| w (.bool (!(a0.Attr == []))) rfl rfl <| w (.bool (!(a0.Attr == []))) rfl rfl ?_
  refine O_ 4 (SH H [(1, (.ptr i1 0)), (19, (.bool ((!(a0.Attr == [])) || (!(a0.Value == [])))))]) ?_ ?_
  revert H
  cases hc4 : (!(a0.Attr == []))
  intro H
  refine us 1 rfl <| N_ rfl rfl <| Wg H 0 rfl <| us 2 rfl <| A_ ?_
  exact kf H
  intro H
  refine us 4 rfl <| A_ ?_
  exact kf H
  rintro σ S e ⟨hk, H, rfl⟩
  refine E_ hk <| w (.bool ((!(a0.Attr == [])) || (!(a0.Value == [])))) rfl rfl ?_
  refine O_ 5 (SH H [(1, (.ptr i1 0)), (25, (.bool (((!(a0.Attr == [])) || (!(a0.Value == []))) || (decide ((Sl.len a0.Subs) > 0)))))]) ?_ ?_
  revert H
  cases hc5 : ((!(a0.Attr == [])) || (!(a0.Value == [])))
  intro H
  refine us 1 rfl <| N_ rfl rfl <| Wg H 0 rfl <| N_ rfl rfl <| Wl rfl <| us 2 rfl <| A_ ?_
  exact kf H
  intro H
  refine us 5 rfl <| A_ ?_
  exact kf H
  rintro σ S e ⟨hk, H, rfl⟩
  generalize (((!(a0.Attr == [])) || (!(a0.Value == []))) || (decide ((Sl.len a0.Subs) > 0))) = p1 at hk h
  refine E_ hk <| w (.bool p1) rfl rfl ?_
  refine O_ 10 (SJ [(1, (.ptr i1 0)), (36, (.bool (p1 || ((a0.Kind == 3) && ((Sl.len a0.Kids) != 1)))))] [] [] [(i1, .cells (Xag a0))] [] [] false) ?_ ?_
  revert H
  cases hc6 : p1
  intro H
  refine us 1 rfl <| N_ rfl rfl <| Wg H 0 rfl <| N_ rfl rfl <| w (.bool (a0.Kind == 3)) rfl rfl <| N_ rfl rfl <| w (.bool (a0.Kind == 3)) rfl rfl ?_
  refine O_ 5 (SH H [(1, (.ptr i1 0)), (26, (.bool false)), (35, (.bool ((a0.Kind == 3) && ((Sl.len a0.Kids) != 1))))]) ?_ ?_
  revert H
  cases hc8 : (a0.Kind == 3)
  intro H
  refine us 5 rfl <| A_ ?_
  exact kf H
  intro H
  refine us 1 rfl <| N_ rfl rfl <| Wg H 0 rfl <| N_ rfl rfl <| Wl rfl <| us 2 rfl <| A_ ?_
  exact kf H
  rintro σ S e ⟨hk, H, rfl⟩
  refine E_ hk <| us 1 rfl <| A_ ?_
  exact kf H
  intro H
  refine us 4 rfl <| l_ rfl rfl <| l_ rfl rfl <| l_ rfl rfl <| l_ rfl rfl <| us 2 rfl <| A_ ?_
  exact kf H
  rintro σ S e ⟨hk, H, rfl⟩
  refine E_ hk <| A_ ?_
  rcases Xa1 h with ⟨hc9, h⟩ | ⟨hc9, h⟩
  refine F_ rfl hc9 <| B_ <| us 1 rfl <| A_ <| Q_ <| H_ <| H_ ?_
  have h := oi h; subst h
  exact Kr (.bool false) rfl rfl
  refine G_ rfl hc9 <| M_ <| C_ <| I_ <| B_ <| us 1 rfl <| A_ ?_
  obtain ⟨y10, hy10, hOy10⟩ := Xaf h
  refine R_ ?_
  refine Xs5 ih hi1 ?_ ?_ hy10  kn (hs H)
  intro y10r he σ S  hk H; subst he; replace h := hOy10; dsimp only at h
  refine J_ hk <| P_ <| H_ <| H_ ?_
  have h := oi h; subst h
  exact Kr (.bool y10r) rfl rfl
  intro y10b he σ S  hk H; subst he; replace h := hOy10; dsimp only at h
  refine J_ hk <| U_ <| C_ <| B_ <| us 1 rfl <| A_ <| Q_ <| H_ ?_
  have h := oi h; subst h
  exact Kr (.bool true) rfl rfl
  refine G_ rfl hc3 <| M_ <| C_ <| I_ <| B_ <| us 1 rfl <| Wg H 0 rfl <| w (.bool (decide (a0.Kind < 4))) rfl rfl <| w (.bool (decide (a0.Kind < 4))) rfl rfl ?_
  refine O_ 4 (SH H [(1, (.ptr i1 0)), (58, (.bool ((decide (a0.Kind < 4)) || (decide (a0.Kind > 8)))))]) ?_ ?_
  revert H
  cases hc11 : (decide (a0.Kind < 4))
  intro H
  refine us 1 rfl <| N_ rfl rfl <| Wg H 0 rfl <| us 2 rfl <| A_ ?_
  exact kf H
  intro H
  refine us 4 rfl <| A_ ?_
  exact kf H
  rintro σ S e ⟨hk, H, rfl⟩
  generalize ((decide (a0.Kind < 4)) || (decide (a0.Kind > 8))) = p2 at hk h
  refine E_ hk <| w (.bool p2) rfl rfl ?_
  refine O_ 5 (SH H [(1, (.ptr i1 0)), (64, (.bool (p2 || (decide ((Sl.len a0.Kids) > 0)))))]) ?_ ?_
  revert H
  cases hc12 : p2
  intro H
  refine us 1 rfl <| N_ rfl rfl <| Wg H 0 rfl <| N_ rfl rfl <| Wl rfl <| us 2 rfl <| A_ ?_
  exact kf H
  intro H
  refine us 5 rfl <| A_ ?_
  exact kf H
  rintro σ S e ⟨hk, H, rfl⟩
  refine E_ hk <| w (.bool (p2 || (decide ((Sl.len a0.Kids) > 0)))) rfl rfl ?_
  obtain ⟨y13, hy13, hOy13⟩ := Xaf h
  refine O_ 5 (SJ [(1, (.ptr i1 0)), (70, (.bool y13))] [] [] [(i1, .cells (Xag a0))] [] [] false) ?_ ?_
  replace h := hy13
  revert H
  cases hc14 : (p2 || (decide ((Sl.len a0.Kids) > 0)))
  intro H
  replace h := Xc5 h hc14
  refine us 1 rfl <| N_ rfl rfl <| Wg H 0 rfl <| N_ rfl rfl ?_
  obtain ⟨y15, hy15, h⟩ := Xaf h
  refine Cl (.bool y15) [(.str a0.Attr)] rfl rfl (s91 _ hy15 rfl) <| us 2 rfl <| A_ ?_
  have h := oi h; subst h
  exact kh H
  intro H
  replace h := Xc4 h hc14
  refine us 5 rfl <| A_ ?_
  have h := oi h; subst h
  exact kh H
  rintro σ S e ⟨hk, H, rfl⟩
  replace h := hOy13
  refine E_ hk <| A_ ?_
  rcases Xa1 h with ⟨hc16, h⟩ | ⟨hc16, h⟩
  refine F_ rfl hc16 <| B_ <| us 1 rfl <| A_ <| Q_ <| H_ ?_
  have h := oi h; subst h
  exact Kr (.bool false) rfl rfl
  refine G_ rfl hc16 <| M_ <| C_ <| I_ <| B_ <| us 1 rfl <| Wg H 0 rfl <| A_ <| R_ <| B_ <| us 2 rfl <| A_ ?_
  rcases Xa1 h with ⟨hc17, h⟩ | ⟨hc17, h⟩
  refine F_ rfl hc17 <| B_ <| us 1 rfl <| Wg H 0 rfl <| w (.bool (a0.Value == [])) rfl rfl <| w (.bool (a0.Value == [])) rfl rfl ?_
  refine O_ 5 (SH H [(83, (.bool ((a0.Value == []) && ((Sl.len a0.Subs) == 0))))]) ?_ ?_
  revert H
  cases hc18 : (a0.Value == [])
  intro H
  refine us 5 rfl <| A_ ?_
  exact kf H
  intro H
  refine us 1 rfl <| N_ rfl rfl <| Wg H 0 rfl <| N_ rfl rfl <| Wl rfl <| us 2 rfl <| A_ ?_
  exact kf H
  rintro σ S e ⟨hk, H, rfl⟩
  refine E_ hk <| us 1 rfl <| A_ <| Q_ <| P_ <| H_ ?_
  have h := oi h; subst h
  exact Kr (.bool ((a0.Value == []) && ((Sl.len a0.Subs) == 0))) rfl rfl
  refine G_ rfl hc17 <| B_ <| us 2 rfl <| A_ ?_
  rcases Xa1 h with ⟨hc19, h⟩ | ⟨hc19, h⟩
  refine F_ rfl hc19 <| B_ <| us 1 rfl <| Wg H 0 rfl <| w (.bool (a0.Value == [])) rfl rfl <| w (.bool (a0.Value == [])) rfl rfl ?_
  obtain ⟨y20, hy20, hOy20⟩ := Xaf h
  refine O_ 4 (SJ [(93, (.bool y20))] [] [] [(i1, .cells (Xag a0))] [] [] false) ?_ ?_
  replace h := hy20
  revert H
  cases hc21 : (a0.Value == [])
  intro H
  replace h := Xc5 h hc21
  refine us 4 rfl <| A_ ?_
  have h := oi h; subst h
  exact kh H
  intro H
  replace h := Xc4 h hc21
  refine us 1 rfl <| N_ rfl rfl <| Wg H 0 rfl <| N_ rfl rfl ?_
  obtain ⟨y22, hy22, h⟩ := Xaf h
  refine Cl (.bool y22) [(Xar eS a0.Subs)] rfl (fe rfl rfl) (sv (s92 _ hy22)) <| us 1 rfl <| A_ ?_
  have h := oi h; subst h
  exact kh H
  rintro σ S e ⟨hk, H, rfl⟩
  replace h := hOy20
  refine E_ hk <| us 1 rfl <| A_ <| Q_ <| P_ <| H_ ?_
  have h := oi h; subst h
  exact Kr (.bool y20) rfl rfl
  refine G_ rfl hc19 <| M_ <| V_ <| C_ <| B_ <| us 1 rfl <| Wg H 0 rfl <| us 1 rfl <| w (.bool (decide ((Str.len a0.Value) ≤ 60))) rfl rfl <| w (.bool (decide ((Str.len a0.Value) ≤ 60))) rfl rfl ?_
  refine O_ 5 (SH H [(103, (.bool ((decide ((Str.len a0.Value) ≤ 60)) && ((Sl.len a0.Subs) == 0))))]) ?_ ?_
  revert H
  cases hc23 : (decide ((Str.len a0.Value) ≤ 60))
  intro H
  refine us 5 rfl <| A_ ?_
  exact kf H
  intro H
  refine us 1 rfl <| N_ rfl rfl <| Wg H 0 rfl <| N_ rfl rfl <| Wl rfl <| us 2 rfl <| A_ ?_
  exact kf H
  rintro σ S e ⟨hk, H, rfl⟩
  generalize ((decide ((Str.len a0.Value) ≤ 60)) && ((Sl.len a0.Subs) == 0)) = p3 at hk h
  refine E_ hk <| us 1 rfl <| A_ <| Q_ ?_
  have h := oi h; subst h
  exact Kr (.bool p3) rfl rfl
def F37 (k : Nat) (a0 : Xae) : Option Bool :=
 (F69 k a0).bind fun y2 =>
 (if decide (y2 ≤ 20) then
 (F70 k a0).bind fun y8 =>
 some y8
 else
 some false).bind fun y7 =>
 some y7
theorem s37 : ∀ k : Nat, ∀ {a0 : Xae} {r : Bool}, F37 k a0 = some r → Q 37 [(.agg (Xag a0))] (.bool r) := by
 intro k a0 r h
 unfold F37 at h
 refine Qg (pf := Xv8) rfl cq rfl fun H => ?_
 refine B_ <| Wb H rfl ?_
 intro i1 S hi1 H
 refine us 1 rfl <| A_ <| B_ <| Wg H 0 rfl ?_
 obtain ⟨y2, hy2, h⟩ := Xaf h
 refine Cl (.int .i64 y2) [(.agg (Xag a0))] rfl rfl (sv (s69 _ hy2)) <| w (.bool (decide (y2 ≤ 20))) rfl rfl <| w (.bool (decide (y2 ≤ 20))) rfl rfl ?_
 obtain ⟨y7, hy7, hOy7⟩ := Xaf h
 refine O_ 3 (SJ [(9, (.bool y7))] [] [] [(i1, .cells (Xag a0))] [] [] false) ?_ ?_
 replace h := hy7
 revert H
 cases hc9 : (decide (y2 ≤ 20))
 intro H
 replace h := Xc5 h hc9
 refine us 3 rfl <| A_ ?_
 have h := oi h; subst h
 exact kh H
 intro H
 replace h := Xc4 h hc9
 refine N_ rfl rfl <| Wg H 0 rfl <| N_ rfl rfl ?_
 obtain ⟨y8, hy8, h⟩ := Xaf h
 refine Cl (.bool y8) [(.agg (Xag a0))] rfl rfl (sv (s70 _ hy8)) <| us 1 rfl <| A_ ?_
 have h := oi h; subst h
 exact kh H
 rintro σ S e ⟨hk, H, rfl⟩
 replace h := hOy7
 refine E_ hk <| us 1 rfl <| A_ <| Q_ ?_
 have h := oi h; subst h
 exact Kr (.bool y7) rfl rfl
def F12 (k : Nat) (a0 : Xay) : Option Bool :=
 (if (((decide (a0.Op < 1)) || (decide (a0.Op > 10))) || (decide (a0.ID < 0))) || (decide (a0.ID > 2147483647)) then
 some true
 else
 (F34 k a0).bind fun y9 =>
 (F14 k a0 y9).bind fun y1 =>
 some (!y1)).bind fun y8 =>
 if y8 then
 some false
 else
 (F35 k (some [a0.DN, a0.Pass, a0.RDN, a0.Sup, a0.Attr, a0.Value, a0.Matched])).bind fun y2 =>
 (if !y2 then
 some true
 else
 (F35 k a0.Wants).bind fun y3 =>
 some (!y3)).bind fun y4 =>
 (if y4 then
 some true
 else
 (F36 k a0.Mods (a0.Op == 4)).bind fun y5 =>
 some (!y5)).bind fun y6 =>
 if y6 then
 some false
 else
 if a0.Op == 1 then
 some ((decide (a0.Version ≥ 1)) && (decide (a0.Version ≤ 127)))
 else
 if a0.Op == 3 then
 (if (((decide (a0.Scope ≥ 0)) && (decide (a0.Scope ≤ 2))) && (decide (a0.Size ≥ 0))) && (decide (a0.Size ≤ 2147483647)) then
 (F37 k a0.Filter).bind fun y7 =>
 some y7
 else
 some false).bind fun y10 =>
 some y10
 else
 if a0.Op == 9 then
 some (((((decide (a0.Of ≥ 1)) && (decide (a0.Of ≤ 8))) && (a0.Of != 2)) && (decide (a0.Code ≥ 0))) && (decide (a0.Code ≤ 127)))
 else
 some true
theorem s12 : ∀ k : Nat, ∀ {a0 : Xay} {r : Bool}, F12 k a0 = some r → Q 12 [(.agg (Xak a0))] (.bool r) := by
 intro k a0 r h
 unfold F12 at h
 refine Qg (pf := XvA) rfl cq rfl fun H => ?_
 refine B_ <| Wb H rfl ?_
 intro i1 S hi1 H
 refine us 1 rfl <| A_ <| I_ <| I_ <| h_ <| wh _ rfl rfl <| Wgh H 0 rfl <| wh (.bool (decide (a0.Op < 1))) rfl rfl <| wh (.bool (decide (a0.Op < 1))) rfl rfl ?_
 refine WH.split 4 (fun σ' => Xa2 ([(1, (.ptr i1 0)), (10, (.bool ((decide (a0.Op < 1)) || (decide (a0.Op > 10)))))]) σ') ?_ ?_
 revert H
 cases hc2 : (decide (a0.Op < 1))
 intro H
 refine d_ rfl rfl <| wh _ rfl rfl <| d_ rfl rfl <| Wgh H 0 rfl <| d_ rfl rfl <| wh _ rfl rfl <| wh _ rfl rfl <| f_ ?_
 exact kn
 intro H
 refine i_ rfl rfl rfl <| i_ rfl rfl rfl <| i_ rfl rfl rfl <| wh _ rfl rfl <| f_ ?_
 exact kn
 intro σ hk
 refine WH.of_known hk <| wh (.bool ((decide (a0.Op < 1)) || (decide (a0.Op > 10)))) rfl rfl ?_
 refine WH.split 4 (fun σ' => Xa2 ([(1, (.ptr i1 0)), (15, (.bool (((decide (a0.Op < 1)) || (decide (a0.Op > 10))) || (decide (a0.ID < 0)))))]) σ') ?_ ?_
 revert H
 cases hc3 : ((decide (a0.Op < 1)) || (decide (a0.Op > 10)))
 intro H
 refine d_ rfl rfl <| wh _ rfl rfl <| d_ rfl rfl <| Wgh H 0 rfl <| d_ rfl rfl <| wh _ rfl rfl <| wh _ rfl rfl <| f_ ?_
 exact kn
 intro H
 refine i_ rfl rfl rfl <| i_ rfl rfl rfl <| i_ rfl rfl rfl <| wh _ rfl rfl <| f_ ?_
 exact kn
 intro σ hk
 refine WH.of_known hk <| wh (.bool (((decide (a0.Op < 1)) || (decide (a0.Op > 10))) || (decide (a0.ID < 0)))) rfl rfl ?_
 refine WH.split 4 (fun σ' => Xa2 ([(1, (.ptr i1 0)), (20, (.bool ((((decide (a0.Op < 1)) || (decide (a0.Op > 10))) || (decide (a0.ID < 0))) || (decide (a0.ID > 2147483647)))))]) σ') ?_ ?_
 revert H
 cases hc4 : (((decide (a0.Op < 1)) || (decide (a0.Op > 10))) || (decide (a0.ID < 0)))
 intro H
 refine d_ rfl rfl <| wh _ rfl rfl <| d_ rfl rfl <| Wgh H 0 rfl <| d_ rfl rfl <| wh _ rfl rfl <| wh _ rfl rfl <| f_ ?_
 exact kn
 intro H
 refine i_ rfl rfl rfl <| i_ rfl rfl rfl <| i_ rfl rfl rfl <| wh _ rfl rfl <| f_ ?_
 exact kn
 intro σ hk
 refine WH.of_known hk <| wh (.bool ((((decide (a0.Op < 1)) || (decide (a0.Op > 10))) || (decide (a0.ID < 0))) || (decide (a0.ID > 2147483647)))) rfl rfl ?_
 obtain ⟨y8, hy8, hOy8⟩ := Xaf h
 refine WD.split 3 (SJ [(1, (.ptr i1 0)), (27, (.bool y8))] [] [] [(i1, .cells (Xak a0))] [] [] false) ?_ ?_
 replace h := hy8
 revert H
 cases hc5 : ((((decide (a0.Op < 1)) || (decide (a0.Op > 10))) || (decide (a0.ID < 0))) || (decide (a0.ID > 2147483647)))
 intro H
 replace h := Xc5 h hc5
 refine d_ rfl rfl <| Wgh H 0 rfl <| d_ rfl rfl <| Wgh H 0 rfl <| d_ rfl rfl ?_
 obtain ⟨y9, hy9, h⟩ := Xaf h
 refine Clh (.agg (Xak y9)) [(.agg (Xak a0))] rfl rfl (sv (s34 _ hy9)) <| f_ <| N_ rfl rfl ?_
 obtain ⟨y6, hy6, h⟩ := Xaf h
 refine Cl (.bool y6) [(.agg (Xak a0)), (.agg (Xak y9))] rfl rfl (sv (s14 _ hy6)) <| us 2 rfl <| A_ ?_
 have h := oi h; subst h
 exact kh H
 intro H
 replace h := Xc4 h hc5
 refine i_ rfl rfl rfl <| i_ rfl rfl rfl <| i_ rfl rfl rfl <| f_ <| us 3 rfl <| A_ ?_
 have h := oi h; subst h
 exact kh H
 rintro σ S e ⟨hk, H, rfl⟩
 replace h := hOy8
 refine E_ hk <| A_ <| C_ ?_
 rcases Xa1 h with ⟨hc7, h⟩ | ⟨hc7, h⟩
 refine F_ rfl hc7 <| B_ <| us 1 rfl <| A_ <| Q_ <| H_ ?_
 have h := oi h; subst h
 exact Kr (.bool false) rfl rfl
 refine G_ rfl hc7 <| M_ <| C_ <| I_ <| B_ <| us 1 rfl <| Wg H 0 rfl <| us 1 rfl <| Wg H 0 rfl <| us 1 rfl <| Wg H 0 rfl <| us 1 rfl <| Wg H 0 rfl <| us 1 rfl <| Wg H 0 rfl <| us 1 rfl <| Wg H 0 rfl <| us 1 rfl <| Wg H 0 rfl <| WS rfl (nz rfl (Xaj (ys := [a0.DN, a0.Pass, a0.RDN, a0.Sup, a0.Attr, a0.Value, a0.Matched]) (f := eS) (parts := [(0, (.str a0.DN)), (1, (.str a0.Pass)), (2, (.str a0.RDN)), (3, (.str a0.Sup)), (4, (.str a0.Attr)), (5, (.str a0.Value)), (6, (.str a0.Matched))]) rfl rfl rfl rfl rfl rfl (fc ⟨rfl, rfl⟩ (fc ⟨rfl, rfl⟩ (fc ⟨rfl, rfl⟩ (fc ⟨rfl, rfl⟩ (fc ⟨rfl, rfl⟩ (fc ⟨rfl, rfl⟩ (fc ⟨rfl, rfl⟩ (fun p hp => nomatch hp)))))))) rfl)) ?_
 have hv10 : Xa8 eS (some [a0.DN, a0.Pass, a0.RDN, a0.Sup, a0.Attr, a0.Value, a0.Matched]) _ := ⟨.full, rfl⟩
 obtain ⟨y11, hy11, h⟩ := Xaf h
 refine Cl (.bool y11) [(.lst (List.map eS [a0.DN, a0.Pass, a0.RDN, a0.Sup, a0.Attr, a0.Value, a0.Matched]) .full)] rfl (Xaw hv10.frz rfl) (s35 _ hy11 (by simp only [hv10.strip, XaX, Xa3, eI, eB, eS, List.map_cons, List.map_nil, Xal] <;> rfl)) <| w (.bool (!y11)) rfl rfl <| w (.bool (!y11)) rfl rfl ?_
 obtain ⟨y12, hy12, hOy12⟩ := Xaf h
 refine O_ 5 (SJ [(1, (.ptr i1 0)), (50, (.bool y12))] [] [] [(i1, .cells (Xak a0))] [] [] false) ?_ ?_
 replace h := hy12
 revert H
 cases hc13 : (!y11)
 intro H
 replace h := Xc5 h hc13
 refine us 1 rfl <| N_ rfl rfl <| Wg H 0 rfl <| N_ rfl rfl ?_
 obtain ⟨y14, hy14, h⟩ := Xaf h
 refine Cl (.bool y14) [(Xar eS a0.Wants)] rfl (fe rfl rfl) (sv (s35 _ hy14)) <| us 2 rfl <| A_ ?_
 have h := oi h; subst h
 exact kh H
 intro H
 replace h := Xc4 h hc13
 refine us 5 rfl <| A_ ?_
 have h := oi h; subst h
 exact kh H
 rintro σ S e ⟨hk, H, rfl⟩
 replace h := hOy12
 refine E_ hk <| us 1 rfl ?_
 obtain ⟨y15, hy15, hOy15⟩ := Xaf h
 refine O_ 8 (SJ [(1, (.ptr i1 0)), (59, (.bool y15))] [] [] [(i1, .cells (Xak a0))] [] [] false) ?_ ?_
 replace h := hy15
 revert H
 cases hc16 : y12
 intro H
 replace h := Xc5 h hc16
 refine us 1 rfl <| N_ rfl rfl <| Wg H 0 rfl <| us 1 rfl <| N_ rfl rfl <| Wg H 0 rfl <| us 1 rfl <| N_ rfl rfl ?_
 obtain ⟨y17, hy17, h⟩ := Xaf h
 refine Cl (.bool y17) [(Xar Xao a0.Mods), (.bool (a0.Op == 4))] rfl (fe rfl (Xaw rfl rfl)) (sv (s36 _ hy17)) <| us 2 rfl <| A_ ?_
 have h := oi h; subst h
 exact kh H
 intro H
 replace h := Xc4 h hc16
 refine us 8 rfl <| A_ ?_
 have h := oi h; subst h
 exact kh H
 rintro σ S e ⟨hk, H, rfl⟩
 replace h := hOy15
 refine E_ hk <| A_ ?_
 rcases Xa1 h with ⟨hc18, h⟩ | ⟨hc18, h⟩
 refine F_ rfl hc18 <| B_ <| us 1 rfl <| A_ <| Q_ <| H_ ?_
 have h := oi h; subst h
 exact Kr (.bool false) rfl rfl
 refine G_ rfl hc18 <| M_ <| C_ <| I_ <| B_ <| us 1 rfl <| Wg H 0 rfl <| A_ <| R_ <| B_ <| us 2 rfl <| A_ ?_
 rcases Xa1 h with ⟨hc19, h⟩ | ⟨hc19, h⟩
 refine F_ rfl hc19 <| B_ <| us 1 rfl <| Wg H 0 rfl <| w (.bool (decide (a0.Version ≥ 1))) rfl rfl <| w (.bool (decide (a0.Version ≥ 1))) rfl rfl ?_
 refine O_ 4 (SH H [(71, (.bool ((decide (a0.Version ≥ 1)) && (decide (a0.Version ≤ 127)))))]) ?_ ?_
 revert H
 cases hc20 : (decide (a0.Version ≥ 1))
 intro H
 refine us 4 rfl <| A_ ?_
 exact kf H
 intro H
 refine us 1 rfl <| N_ rfl rfl <| Wg H 0 rfl <| us 2 rfl <| A_ ?_
 exact kf H
 rintro σ S e ⟨hk, H, rfl⟩
 generalize ((decide (a0.Version ≥ 1)) && (decide (a0.Version ≤ 127))) = p0 at hk h
 refine E_ hk <| us 1 rfl <| A_ <| Q_ <| P_ <| H_ ?_
 have h := oi h; subst h
 exact Kr (.bool p0) rfl rfl
 refine G_ rfl hc19 <| B_ <| us 2 rfl <| A_ ?_
 rcases Xa1 h with ⟨hc21, h⟩ | ⟨hc21, h⟩
 refine F_ rfl hc21 <| B_ <| us 1 rfl <| Wg H 0 rfl <| w (.bool (decide (a0.Scope ≥ 0))) rfl rfl <| w (.bool (decide (a0.Scope ≥ 0))) rfl rfl ?_
 refine O_ 4 (SH H [(1, (.ptr i1 0)), (81, (.bool ((decide (a0.Scope ≥ 0)) && (decide (a0.Scope ≤ 2)))))]) ?_ ?_
 revert H
 cases hc22 : (decide (a0.Scope ≥ 0))
 intro H
 refine us 4 rfl <| A_ ?_
 exact kf H
 intro H
 refine us 1 rfl <| N_ rfl rfl <| Wg H 0 rfl <| us 2 rfl <| A_ ?_
 exact kf H
 rintro σ S e ⟨hk, H, rfl⟩
 generalize ((decide (a0.Scope ≥ 0)) && (decide (a0.Scope ≤ 2))) = p1 at hk h
 refine E_ hk <| w (.bool p1) rfl rfl ?_
 refine O_ 4 (SH H [(1, (.ptr i1 0)), (86, (.bool (p1 && (decide (a0.Size ≥ 0)))))]) ?_ ?_
 revert H
 cases hc23 : p1
 intro H
 refine us 4 rfl <| A_ ?_
 exact kf H
 intro H
 refine us 1 rfl <| N_ rfl rfl <| Wg H 0 rfl <| us 2 rfl <| A_ ?_
 exact kf H
 rintro σ S e ⟨hk, H, rfl⟩
 refine E_ hk <| w (.bool (p1 && (decide (a0.Size ≥ 0)))) rfl rfl ?_
 refine O_ 4 (SH H [(1, (.ptr i1 0)), (91, (.bool ((p1 && (decide (a0.Size ≥ 0))) && (decide (a0.Size ≤ 2147483647)))))]) ?_ ?_
 revert H
 cases hc24 : (p1 && (decide (a0.Size ≥ 0)))
 intro H
 refine us 4 rfl <| A_ ?_
 exact kf H
 intro H
 refine us 1 rfl <| N_ rfl rfl <| Wg H 0 rfl <| us 2 rfl <| A_ ?_
 exact kf H
 rintro σ S e ⟨hk, H, rfl⟩
 generalize ((p1 && (decide (a0.Size ≥ 0))) && (decide (a0.Size ≤ 2147483647))) = p2 at hk h
 refine E_ hk <| w (.bool p2) rfl rfl ?_
 obtain ⟨y25, hy25, hOy25⟩ := Xaf h
 refine O_ 4 (SJ [(96, (.bool y25))] [] [] [(i1, .cells (Xak a0))] [] [] false) ?_ ?_
 replace h := hy25
 revert H
 cases hc26 : p2
 intro H
 replace h := Xc5 h hc26
 refine us 4 rfl <| A_ ?_
 have h := oi h; subst h
 exact kh H
 intro H
 replace h := Xc4 h hc26
 refine us 1 rfl <| N_ rfl rfl <| Wg H 0 rfl <| N_ rfl rfl ?_
 obtain ⟨y27, hy27, h⟩ := Xaf h
 refine Cl (.bool y27) [(.agg (Xag a0.Filter))] rfl rfl (sv (s37 _ hy27)) <| us 1 rfl <| A_ ?_
 have h := oi h; subst h
 exact kh H
 rintro σ S e ⟨hk, H, rfl⟩
 replace h := hOy25
 refine E_ hk <| us 1 rfl <| A_ <| Q_ <| P_ <| H_ ?_
 have h := oi h; subst h
 exact Kr (.bool y25) rfl rfl
 refine G_ rfl hc21 <| B_ <| us 2 rfl <| A_ ?_
 rcases Xa1 h with ⟨hc28, h⟩ | ⟨hc28, h⟩
 refine F_ rfl hc28 <| B_ <| us 1 rfl <| Wg H 0 rfl <| w (.bool (decide (a0.Of ≥ 1))) rfl rfl <| w (.bool (decide (a0.Of ≥ 1))) rfl rfl ?_
 refine O_ 4 (SH H [(1, (.ptr i1 0)), (106, (.bool ((decide (a0.Of ≥ 1)) && (decide (a0.Of ≤ 8)))))]) ?_ ?_
 revert H
 cases hc29 : (decide (a0.Of ≥ 1))
 intro H
 refine us 4 rfl <| A_ ?_
 exact kf H
 intro H
 refine us 1 rfl <| N_ rfl rfl <| Wg H 0 rfl <| us 2 rfl <| A_ ?_
 exact kf H
 rintro σ S e ⟨hk, H, rfl⟩
 generalize ((decide (a0.Of ≥ 1)) && (decide (a0.Of ≤ 8))) = p3 at hk h
 refine E_ hk <| w (.bool p3) rfl rfl ?_
 refine O_ 4 (SH H [(1, (.ptr i1 0)), (111, (.bool (p3 && (a0.Of != 2))))]) ?_ ?_
 revert H
 cases hc30 : p3
 intro H
 refine us 4 rfl <| A_ ?_
 exact kf H
 intro H
 refine us 1 rfl <| N_ rfl rfl <| Wg H 0 rfl <| us 2 rfl <| A_ ?_
 exact kf H
 rintro σ S e ⟨hk, H, rfl⟩
 refine E_ hk <| w (.bool (p3 && (a0.Of != 2))) rfl rfl ?_
 refine O_ 4 (SH H [(1, (.ptr i1 0)), (116, (.bool ((p3 && (a0.Of != 2)) && (decide (a0.Code ≥ 0)))))]) ?_ ?_
 revert H
 cases hc31 : (p3 && (a0.Of != 2))
 intro H
 refine us 4 rfl <| A_ ?_
 exact kf H
 intro H
 refine us 1 rfl <| N_ rfl rfl <| Wg H 0 rfl <| us 2 rfl <| A_ ?_
 exact kf H
 rintro σ S e ⟨hk, H, rfl⟩
 generalize ((p3 && (a0.Of != 2)) && (decide (a0.Code ≥ 0))) = p4 at hk h
 refine E_ hk <| w (.bool p4) rfl rfl ?_
 refine O_ 4 (SH H [(121, (.bool (p4 && (decide (a0.Code ≤ 127)))))]) ?_ ?_
 revert H
 cases hc32 : p4
 intro H
 refine us 4 rfl <| A_ ?_
 exact kf H
 intro H
 refine us 1 rfl <| N_ rfl rfl <| Wg H 0 rfl <| us 2 rfl <| A_ ?_
 exact kf H
 rintro σ S e ⟨hk, H, rfl⟩
 refine E_ hk <| us 1 rfl <| A_ <| Q_ <| P_ <| H_ ?_
 have h := oi h; subst h
 exact Kr (.bool (p4 && (decide (a0.Code ≤ 127)))) rfl rfl
 refine G_ rfl hc28 <| M_ <| V_ <| C_ <| B_ <| us 1 rfl <| A_ <| Q_ ?_
 have h := oi h; subst h
 exact Kr (.bool true) rfl rfl
end Go.Proofs.YtbinlabnilidiaaGreatDoor.M
