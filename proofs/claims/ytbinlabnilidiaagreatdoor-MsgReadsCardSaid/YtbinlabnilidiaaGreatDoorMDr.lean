/- Part of the proof: the runs of functions on the abstract machine. -/
import Derived.Test.YtbinlabnilidiaaGreatDoorPamM4
import Derived.Test.YtbinlabnilidiaaGreatDoorFns
import Derived.Test.YtbinlabnilidiaaGreatDoorMDe
import Derived.Test.YtbinlabnilidiaaGreatDoorMDc
import Derived.Test.YtbinlabnilidiaaGreatDoorMDc1
namespace Go.Proofs.YtbinlabnilidiaaGreatDoor.M
open Go Go.Pam Go.RowKit Go.WideShapes
set_option maxRecDepth 8000
set_option linter.unusedVariables false
set_option linter.unusedSimpArgs false
def Xgd (rc0 : Xae → Xae → Option Bool) (k : Nat) (a1 : Xae) (a2 : Xae) : Nat → Int → Option (Out Bool Int)
 | 0, _ => none
 | n + 1, x3 =>
  if decide (x3 < (Sl.len a2.Subs)) then
  (Sl.at? a2.Subs x3).bind fun y4 =>
  (Sl.at? a1.Subs x3).bind fun y5 =>
  if !(y4 == y5) then
  some (Out.ret false)
  else
  Xgd rc0 k a1 a2 n (ad .i64 x3 1)
  else
  some (Out.brk x3)
def Xge (rc0 : Xae → Xae → Option Bool) (k : Nat) (a1 : Xae) (a2 : Xae) : Nat → Int → Option (Out Bool Int)
 | 0, _ => none
 | n + 1, x3 =>
  if decide (x3 < (Sl.len a2.Kids)) then
  (Sl.at? a2.Kids x3).bind fun y4 =>
  (Sl.at? a1.Kids x3).bind fun y5 =>
  (rc0 y4 y5).bind fun y6 =>
  if !y6 then
  some (Out.ret false)
  else
  Xge rc0 k a1 a2 n (ad .i64 x3 1)
  else
  some (Out.brk x3)
def F42 : Nat → Xae → Xae → Option Bool
 | 0, _, _ => none
 | k + 1, a0, a1 =>
  if ((((a0.Kind != a1.Kind) || (!(a0.Attr == a1.Attr))) || (!(a0.Value == a1.Value))) || ((Sl.len a0.Subs) != (Sl.len a1.Subs))) || ((Sl.len a0.Kids) != (Sl.len a1.Kids)) then
  some false
  else
  (Xgd (F42 k) k a1 a0 k 0).bind fun y2 =>
  match y2 with
  | .ret y2r => some y2r
  | .brk y2b =>
  (Xge (F42 k) k a1 a0 k 0).bind fun y3 =>
  match y3 with
  | .ret y3r => some y3r
  | .brk y3b =>
  some true
theorem Xsw {rc0 : Xae → Xae → Option Bool} (hrc0 : ∀ {a0 : Xae} {a1 : Xae} {r : Bool}, rc0 a0 a1 = some r → Q 42 [(.agg (Xag a0)), (.agg (Xag a1))] (.bool r)) {k : Nat} {a3 : Xae} {a4 : Xae} {S0 : List SObj} {R : List Nat} {K : KX} {i2 : Nat} {i1 : Nat} (hi2 : S0.length ≤ i2) (hi1 : S0.length ≤ i1)  {o : Out Bool Int}
  (hret : ∀ r : Bool, o = .ret r → EK [(4, (.bool r))] S0 R [] [] [] (K .ret))
  (hbrk : ∀ y : Int, o = .brk y → EK [(2, (.ptr i1 0)), (3, (.ptr i2 0))] S0 R [(i2, .cells (Xag a3)), (i1, .cells (Xag a4))] [] [] (K (.exit 0))) :
  ∀ {n : Nat} {x5 : Int}, Xgd rc0 k a3 a4 n x5 = some o → ∀ {σ : Nat → PV} {S : List SObj}, Xa2 [(2, (.ptr i1 0)), (3, (.ptr i2 0)), (5, (.int .i64 x5))] σ → Hp S0 R S [(i2, .cells (Xag a3)), (i1, .cells (Xag a4))] [] [] → WC env ⟨81, S0.length⟩ (.loop Xq7) σ S false K := by
 intro n
 induction n with
 | zero => intro _ h; cases h
 | succ n ih =>
  intro x5 h σ S  hk H
  rw [Xgd] at h
  refine b_ <| X_ hk <| I_ <| B_ <| us 2 rfl <| Wg H 1 rfl <| Wl rfl <| us 1 rfl <| A_ ?_
  rcases Xa1 h with ⟨hc6, h⟩ | ⟨hc6, h⟩
  refine F_ rfl hc6 <| M_ <| C_ <| I_ <| R_ <| I_ <| h_ <| wh _ rfl rfl <| Wgh H 1 rfl <| wh _ rfl rfl ?_
  obtain ⟨y7, hy7, h⟩ := Xaf h
  refine Wxh hy7 rfl rfl <| wh _ rfl rfl <| wh _ rfl rfl <| Wgh H 0 rfl <| wh _ rfl rfl ?_
  obtain ⟨y8, hy8, h⟩ := Xaf h
  refine Wxh hy8 rfl rfl <| wh _ rfl rfl <| f_ <| us 1 rfl <| A_ <| C_ ?_
  rcases Xa1 h with ⟨hc9, h⟩ | ⟨hc9, h⟩
  refine F_ rfl hc9 <| B_ <| us 1 rfl <| A_ <| Q_ <| P_ <| H_ <| H_ ?_
  cases oi h
  exact hret _ rfl kn (H.sub (.cons _ (.cons _ .slnil)) .slnil .slnil)
  refine G_ rfl hc9 <| M_ <| V_ <| C_ <| S_ <| us 3 rfl <| A_ <| C_ ?_
  exact ih h  kn (hs H)
  refine G_ rfl hc6 <| Y_ <| K_ <| K_ ?_
  cases oi h
  exact hbrk _ rfl  kn (hs H)
theorem Xsx {rc0 : Xae → Xae → Option Bool} (hrc0 : ∀ {a0 : Xae} {a1 : Xae} {r : Bool}, rc0 a0 a1 = some r → Q 42 [(.agg (Xag a0)), (.agg (Xag a1))] (.bool r)) {k : Nat} {a3 : Xae} {a4 : Xae} {S0 : List SObj} {R : List Nat} {K : KX} {i2 : Nat} {i1 : Nat} (hi2 : S0.length ≤ i2) (hi1 : S0.length ≤ i1)  {o : Out Bool Int}
  (hret : ∀ r : Bool, o = .ret r → EK [(4, (.bool r))] S0 R [] [] [] (K .ret))
  (hbrk : ∀ y : Int, o = .brk y → EK [] S0 R [(i2, .cells (Xag a3)), (i1, .cells (Xag a4))] [] [] (K (.exit 2))) :
  ∀ {n : Nat} {x5 : Int}, Xge rc0 k a3 a4 n x5 = some o → ∀ {σ : Nat → PV} {S : List SObj}, Xa2 [(2, (.ptr i1 0)), (3, (.ptr i2 0)), (6, (.int .i64 x5))] σ → Hp S0 R S [(i2, .cells (Xag a3)), (i1, .cells (Xag a4))] [] [] → WC env ⟨81, S0.length⟩ (.loop Xq8) σ S false K := by
 intro n
 induction n with
 | zero => intro _ h; cases h
 | succ n ih =>
  intro x5 h σ S  hk H
  rw [Xge] at h
  refine b_ <| X_ hk <| I_ <| B_ <| us 2 rfl <| Wg H 1 rfl <| Wl rfl <| us 1 rfl <| A_ ?_
  rcases Xa1 h with ⟨hc6, h⟩ | ⟨hc6, h⟩
  refine F_ rfl hc6 <| M_ <| C_ <| I_ <| R_ <| I_ <| h_ <| wh _ rfl rfl <| Wgh H 1 rfl <| wh _ rfl rfl ?_
  obtain ⟨y7, hy7, h⟩ := Xaf h
  refine Wxh hy7 (XaA _) rfl <| wh _ rfl rfl <| wh _ rfl rfl <| Wgh H 0 rfl <| wh _ rfl rfl ?_
  obtain ⟨y8, hy8, h⟩ := Xaf h
  refine Wxh hy8 (XaA _) rfl <| wh _ rfl rfl <| f_ ?_
  obtain ⟨y9, hy9, h⟩ := Xaf h
  refine Cl (.bool y9) [(.agg (Xag y7)), (.agg (Xag y8))] rfl rfl (sv (hrc0 hy9)) <| us 1 rfl <| A_ <| C_ ?_
  rcases Xa1 h with ⟨hc10, h⟩ | ⟨hc10, h⟩
  refine F_ rfl hc10 <| B_ <| us 1 rfl <| A_ <| Q_ <| P_ <| H_ <| H_ ?_
  cases oi h
  exact hret _ rfl kn (H.sub (.cons _ (.cons _ .slnil)) .slnil .slnil)
  refine G_ rfl hc10 <| M_ <| V_ <| C_ <| S_ <| us 3 rfl <| A_ <| C_ ?_
  exact ih h  kn (hs H)
  refine G_ rfl hc6 <| Y_ <| K_ <| K_ ?_
  cases oi h
  exact hbrk _ rfl  m_ (hs H)
theorem s42 : ∀ k : Nat, ∀ {a0 : Xae} {a1 : Xae} {r : Bool}, F42 k a0 a1 = some r → Q 42 [(.agg (Xag a0)), (.agg (Xag a1))] (.bool r) := by
 intro k
 induction k with
 | zero => intro _ _ r h; cases h
 | succ k ih =>
  intro a0 a1 r h
  rw [F42] at h
  refine Qg (pf := Xvc) rfl cq rfl fun H => ?_
  refine B_ <| Wb H rfl ?_
  intro i1 S hi1 H
  refine Wb H rfl ?_
  intro i2 S hi2 H
  refine us 1 rfl <| A_ <| I_ <| B_ <| us 1 rfl <| Wg H 1 rfl <| us 1 rfl <| Wg H 0 rfl <| w (.bool (a0.Kind != a1.Kind)) rfl rfl <| w (.bool (a0.Kind != a1.Kind)) rfl rfl ?_
  refine O_ 6 (SH H [(2, (.ptr i1 0)), (3, (.ptr i2 0)), (18, (.bool ((a0.Kind != a1.Kind) || (!(a0.Attr == a1.Attr)))))]) ?_ ?_
  revert H
  cases hc3 : (a0.Kind != a1.Kind)
  intro H
  refine us 1 rfl <| N_ rfl rfl <| Wg H 1 rfl <| us 1 rfl <| N_ rfl rfl <| Wg H 0 rfl <| us 2 rfl <| A_ ?_
  exact kf H
  intro H
  refine us 6 rfl <| A_ ?_
  exact kf H
  rintro σ S e ⟨hk, H, rfl⟩
  generalize ((a0.Kind != a1.Kind) || (!(a0.Attr == a1.Attr))) = p0 at hk h
  refine E_ hk <| w (.bool p0) rfl rfl ?_
  refine O_ 6 (SH H [(2, (.ptr i1 0)), (3, (.ptr i2 0)), (25, (.bool (p0 || (!(a0.Value == a1.Value)))))]) ?_ ?_
  revert H
  cases hc4 : p0
  intro H
  refine us 1 rfl <| N_ rfl rfl <| Wg H 1 rfl <| us 1 rfl <| N_ rfl rfl <| Wg H 0 rfl <| us 2 rfl <| A_ ?_
  exact kf H
  intro H
  refine us 6 rfl <| A_ ?_
  exact kf H
  rintro σ S e ⟨hk, H, rfl⟩
  refine E_ hk <| w (.bool (p0 || (!(a0.Value == a1.Value)))) rfl rfl ?_
  refine O_ 8 (SH H [(2, (.ptr i1 0)), (3, (.ptr i2 0)), (34, (.bool ((p0 || (!(a0.Value == a1.Value))) || ((Sl.len a0.Subs) != (Sl.len a1.Subs)))))]) ?_ ?_
  revert H
  cases hc5 : (p0 || (!(a0.Value == a1.Value)))
  intro H
  refine us 1 rfl <| N_ rfl rfl <| Wg H 1 rfl <| N_ rfl rfl <| Wl rfl <| us 1 rfl <| N_ rfl rfl <| Wg H 0 rfl <| N_ rfl rfl <| Wl rfl <| us 2 rfl <| A_ ?_
  exact kf H
  intro H
  refine us 8 rfl <| A_ ?_
  exact kf H
  rintro σ S e ⟨hk, H, rfl⟩
  generalize ((p0 || (!(a0.Value == a1.Value))) || ((Sl.len a0.Subs) != (Sl.len a1.Subs))) = p1 at hk h
  refine E_ hk <| w (.bool p1) rfl rfl ?_
  refine O_ 8 (SH H [(2, (.ptr i1 0)), (3, (.ptr i2 0)), (43, (.bool (p1 || ((Sl.len a0.Kids) != (Sl.len a1.Kids)))))]) ?_ ?_
  revert H
  cases hc6 : p1
  intro H
  refine us 1 rfl <| N_ rfl rfl <| Wg H 1 rfl <| N_ rfl rfl <| Wl rfl <| us 1 rfl <| N_ rfl rfl <| Wg H 0 rfl <| N_ rfl rfl <| Wl rfl <| us 2 rfl <| A_ ?_
  exact kf H
  intro H
  refine us 8 rfl <| A_ ?_
  exact kf H
  rintro σ S e ⟨hk, H, rfl⟩
  refine E_ hk <| A_ ?_
  rcases Xa1 h with ⟨hc7, h⟩ | ⟨hc7, h⟩
  refine F_ rfl hc7 <| B_ <| us 1 rfl <| A_ <| Q_ <| H_ ?_
  have h := oi h; subst h
  exact Kr (.bool false) rfl rfl
  refine G_ rfl hc7 <| M_ <| C_ <| I_ <| B_ <| us 1 rfl <| A_ ?_
  obtain ⟨y8, hy8, hOy8⟩ := Xaf h
  refine R_ ?_
  refine Xsw ih hi2 hi1 ?_ ?_ hy8  kn (hs H)
  intro y8r he σ S  hk H; subst he; replace h := hOy8; dsimp only at h
  refine J_ hk <| P_ <| H_ ?_
  have h := oi h; subst h
  exact Kr (.bool y8r) rfl rfl
  intro y8b he σ S  hk H; subst he; replace h := hOy8; dsimp only at h
  refine J_ hk <| U_ <| C_ <| I_ <| B_ <| us 1 rfl <| A_ ?_
  obtain ⟨y10, hy10, hOy10⟩ := Xaf h
  refine R_ ?_
  refine Xsx ih hi2 hi1 ?_ ?_ hy10  kn (hs H)
  intro y10r he σ S  hk H; subst he; replace h := hOy10; dsimp only at h
  refine J_ hk <| P_ <| H_ ?_
  have h := oi h; subst h
  exact Kr (.bool y10r) rfl rfl
  intro y10b he σ S  hk H; subst he; replace h := hOy10; dsimp only at h
  refine J_ hk <| U_ <| C_ <| B_ <| us 1 rfl <| A_ <| Q_ ?_
  have h := oi h; subst h
  exact Kr (.bool true) rfl rfl
def Xgf (k : Nat) (a0 : Sl Str) (a1 : Sl Str) : Nat → Int → Option (Out Bool Int)
 | 0, _ => none
 | n + 1, x2 =>
  if decide (x2 < (Sl.len a0)) then
  (Sl.at? a0 x2).bind fun y3 =>
  (Sl.at? a1 x2).bind fun y4 =>
  if !(y3 == y4) then
  some (Out.ret false)
  else
  Xgf k a0 a1 n (ad .i64 x2 1)
  else
  some (Out.brk x2)
def F43 (k : Nat) (a0 : Sl Str) (a1 : Sl Str) : Option Bool :=
 if (Sl.len a0) != (Sl.len a1) then
 some false
 else
 (Xgf k a0 a1 k 0).bind fun y2 =>
 match y2 with
 | .ret y2r => some y2r
 | .brk y2b =>
 some true
theorem Xsy {k : Nat} {a1 : Sl Str} {a2 : Sl Str} {S0 : List SObj} {R : List Nat} {K : KX}  {o : Out Bool Int}
  (hret : ∀ r : Bool, o = .ret r → EK [(4, (.bool r))] S0 R [] [] [] (K .ret))
  (hbrk : ∀ y : Int, o = .brk y → EK [] S0 R [] [] [] (K (.exit 0))) :
  ∀ {n : Nat} {x3 : Int}, Xgf k a1 a2 n x3 = some o → ∀ {σ : Nat → PV} {S : List SObj}, Xa2 [(0, (Xar eS a1)), (1, (Xar eS a2)), (5, (.int .i64 x3))] σ → Hp S0 R S [] [] [] → WC env ⟨26, S0.length⟩ (.loop XqB) σ S false K := by
 intro n
 induction n with
 | zero => intro _ h; cases h
 | succ n ih =>
  intro x3 h σ S  hk H
  rw [Xgf] at h
  refine b_ <| X_ hk <| I_ <| B_ <| us 2 rfl <| Wl rfl <| us 1 rfl <| A_ ?_
  rcases Xa1 h with ⟨hc4, h⟩ | ⟨hc4, h⟩
  refine F_ rfl hc4 <| M_ <| C_ <| I_ <| R_ <| I_ <| h_ <| wh _ rfl rfl <| wh _ rfl rfl ?_
  obtain ⟨y5, hy5, h⟩ := Xaf h
  refine Wxh hy5 rfl rfl <| wh _ rfl rfl <| wh _ rfl rfl <| wh _ rfl rfl ?_
  obtain ⟨y6, hy6, h⟩ := Xaf h
  refine Wxh hy6 rfl rfl <| wh _ rfl rfl <| f_ <| us 1 rfl <| A_ <| C_ ?_
  rcases Xa1 h with ⟨hc7, h⟩ | ⟨hc7, h⟩
  refine F_ rfl hc7 <| B_ <| us 1 rfl <| A_ <| Q_ <| P_ <| H_ <| H_ ?_
  cases oi h
  exact hret _ rfl kn (hs H)
  refine G_ rfl hc7 <| M_ <| V_ <| C_ <| S_ <| us 3 rfl <| A_ <| C_ ?_
  exact ih h  kn (hs H)
  refine G_ rfl hc4 <| Y_ <| K_ <| K_ ?_
  cases oi h
  exact hbrk _ rfl  m_ (hs H)
theorem s43 : ∀ k : Nat, ∀ {a0 : Sl Str} {a1 : Sl Str} {r : Bool}, F43 k a0 a1 = some r → Q 43 [(Xar eS a0), (Xar eS a1)] (.bool r) := by
 intro k a0 a1 r h
 unfold F43 at h
 refine Qg (pf := Xvd) rfl cq rfl fun H => ?_
 refine B_ <| us 1 rfl <| A_ <| I_ <| B_ <| us 1 rfl <| Wl rfl <| us 1 rfl <| Wl rfl <| us 1 rfl <| A_ ?_
 rcases Xa1 h with ⟨hc2, h⟩ | ⟨hc2, h⟩
 refine F_ rfl hc2 <| B_ <| us 1 rfl <| A_ <| Q_ <| H_ ?_
 have h := oi h; subst h
 exact Kr (.bool false) rfl rfl
 refine G_ rfl hc2 <| M_ <| C_ <| I_ <| B_ <| us 1 rfl <| A_ ?_
 obtain ⟨y3, hy3, hOy3⟩ := Xaf h
 refine R_ ?_
 refine Xsy ?_ ?_ hy3  kn (hs H)
 intro y3r he σ S  hk H; subst he; replace h := hOy3; dsimp only at h
 refine J_ hk <| P_ <| H_ ?_
 have h := oi h; subst h
 exact Kr (.bool y3r) rfl rfl
 intro y3b he σ S  hk H; subst he; replace h := hOy3; dsimp only at h
 refine J_ hk <| U_ <| C_ <| B_ <| us 1 rfl <| A_ <| Q_ ?_
 have h := oi h; subst h
 exact Kr (.bool true) rfl rfl
def Xgg (k : Nat) (a0 : Sl Xat) (a1 : Sl Xat) : Nat → Int → Option (Out Bool Int)
 | 0, _ => none
 | n + 1, x2 =>
  if decide (x2 < (Sl.len a0)) then
  (Sl.at? a0 x2).bind fun y3 =>
  (Sl.at? a1 x2).bind fun y4 =>
  (if y3.Kind != y4.Kind then
  some true
  else
  (Sl.at? a0 x2).bind fun y5 =>
  (Sl.at? a1 x2).bind fun y6 =>
  some (!(y5.Attr == y6.Attr))).bind fun y7 =>
  (if y7 then
  some true
  else
  (Sl.at? a0 x2).bind fun y8 =>
  (Sl.at? a1 x2).bind fun y10 =>
  (F43 k y8.Values y10.Values).bind fun y11 =>
  some (!y11)).bind fun y12 =>
  if y12 then
  some (Out.ret false)
  else
  Xgg k a0 a1 n (ad .i64 x2 1)
  else
  some (Out.brk x2)
def F44 (k : Nat) (a0 : Sl Xat) (a1 : Sl Xat) : Option Bool :=
 if (Sl.len a0) != (Sl.len a1) then
 some false
 else
 (Xgg k a0 a1 k 0).bind fun y2 =>
 match y2 with
 | .ret y2r => some y2r
 | .brk y2b =>
 some true
theorem Xsz {k : Nat} {a1 : Sl Xat} {a2 : Sl Xat} {S0 : List SObj} {R : List Nat} {K : KX}  {o : Out Bool Int}
  (hret : ∀ r : Bool, o = .ret r → EK [(4, (.bool r))] S0 R [] [] [] (K .ret))
  (hbrk : ∀ y : Int, o = .brk y → EK [] S0 R [] [] [] (K (.exit 0))) :
  ∀ {n : Nat} {x3 : Int}, Xgg k a1 a2 n x3 = some o → ∀ {σ : Nat → PV} {S : List SObj}, Xa2 [(0, (Xar Xao a1)), (1, (Xar Xao a2)), (5, (.int .i64 x3))] σ → Hp S0 R S [] [] [] → WC env ⟨55, S0.length⟩ (.loop XqE) σ S false K := by
 intro n
 induction n with
 | zero => intro _ h; cases h
 | succ n ih =>
  intro x3 h σ S  hk H
  rw [Xgg] at h
  refine b_ <| X_ hk <| I_ <| B_ <| us 2 rfl <| Wl rfl <| us 1 rfl <| A_ ?_
  rcases Xa1 h with ⟨hc4, h⟩ | ⟨hc4, h⟩
  refine F_ rfl hc4 <| M_ <| C_ <| I_ <| R_ <| I_ <| h_ <| wh _ rfl rfl <| wh _ rfl rfl ?_
  obtain ⟨y5, hy5, h⟩ := Xaf h
  refine Wxh hy5 (Xaz _) rfl <| wh _ rfl rfl <| wh _ rfl rfl <| wh _ rfl rfl <| wh _ rfl rfl ?_
  obtain ⟨y6, hy6, h⟩ := Xaf h
  refine Wxh hy6 (Xaz _) rfl <| wh _ rfl rfl <| wh _ rfl rfl <| wh (.bool (y5.Kind != y6.Kind)) rfl rfl <| wh (.bool (y5.Kind != y6.Kind)) rfl rfl ?_
  obtain ⟨y7, hy7, hOy7⟩ := Xaf h
  refine WH.split 12 (fun σ' => Xa2 ([(0, (Xar Xao a1)), (1, (Xar Xao a2)), (5, (.int .i64 x3)), (40, (.bool y7))]) σ') ?_ ?_
  replace h := hy7
  revert H
  cases hc8 : (y5.Kind != y6.Kind)
  intro H
  replace h := Xc5 h hc8
  refine d_ rfl rfl <| wh _ rfl rfl <| d_ rfl rfl <| wh _ rfl rfl <| d_ rfl rfl ?_
  obtain ⟨y9, hy9, h⟩ := Xaf h
  refine Wxh hy9 (Xaz _) rfl <| d_ rfl rfl <| wh _ rfl rfl <| d_ rfl rfl <| wh _ rfl rfl <| d_ rfl rfl <| wh _ rfl rfl <| d_ rfl rfl <| wh _ rfl rfl <| d_ rfl rfl ?_
  obtain ⟨y10, hy10, h⟩ := Xaf h
  refine Wxh hy10 (Xaz _) rfl <| d_ rfl rfl <| wh _ rfl rfl <| d_ rfl rfl <| wh _ rfl rfl <| d_ rfl rfl <| wh _ rfl rfl <| wh _ rfl rfl <| f_ ?_
  cases oi h
  exact kn
  intro H
  replace h := Xc4 h hc8
  refine i_ rfl rfl rfl <| i_ rfl rfl rfl <| i_ rfl rfl rfl <| i_ rfl rfl rfl <| i_ rfl rfl rfl <| i_ rfl rfl rfl <| i_ rfl rfl rfl <| i_ rfl rfl rfl <| i_ rfl rfl rfl <| i_ rfl rfl rfl <| i_ rfl rfl rfl <| wh _ rfl rfl <| f_ ?_
  cases oi h
  exact kn
  rintro σ hk
  replace h := hOy7
  refine WH.of_known hk <| wh (.bool y7) rfl rfl ?_
  obtain ⟨y11, hy11, hOy11⟩ := Xaf h
  refine WD.split 3 (SJ [(0, (Xar Xao a1)), (1, (Xar Xao a2)), (5, (.int .i64 x3)), (54, (.bool y11))] S0 R [] [] [] false) ?_ ?_
  replace h := hy11
  revert H
  cases hc12 : y7
  intro H
  replace h := Xc5 h hc12
  refine d_ rfl rfl <| wh _ rfl rfl <| d_ rfl rfl <| wh _ rfl rfl <| d_ rfl rfl ?_
  obtain ⟨y13, hy13, h⟩ := Xaf h
  refine Wxh hy13 (Xaz _) rfl <| d_ rfl rfl <| wh _ rfl rfl <| d_ rfl rfl <| wh _ rfl rfl <| d_ rfl rfl <| wh _ rfl rfl <| d_ rfl rfl <| wh _ rfl rfl <| d_ rfl rfl ?_
  obtain ⟨y14, hy14, h⟩ := Xaf h
  refine Wxh hy14 (Xaz _) rfl <| d_ rfl rfl <| wh _ rfl rfl <| d_ rfl rfl <| wh _ rfl rfl <| f_ <| N_ rfl rfl ?_
  obtain ⟨y15, hy15, h⟩ := Xaf h
  refine Cl (.bool y15) [(Xar eS y13.Values), (Xar eS y14.Values)] rfl (fe rfl (fe rfl rfl)) (sv (s43 _ hy15)) <| us 2 rfl <| A_ ?_
  cases oi h
  exact kh H
  intro H
  replace h := Xc4 h hc12
  refine i_ rfl rfl rfl <| i_ rfl rfl rfl <| i_ rfl rfl rfl <| i_ rfl rfl rfl <| i_ rfl rfl rfl <| i_ rfl rfl rfl <| i_ rfl rfl rfl <| i_ rfl rfl rfl <| i_ rfl rfl rfl <| i_ rfl rfl rfl <| f_ <| us 3 rfl <| A_ ?_
  cases oi h
  exact kh H
  rintro σ S e ⟨hk, H, rfl⟩
  replace h := hOy11
  refine E_ hk <| A_ <| C_ ?_
  rcases Xa1 h with ⟨hc16, h⟩ | ⟨hc16, h⟩
  refine F_ rfl hc16 <| B_ <| us 1 rfl <| A_ <| Q_ <| P_ <| H_ <| H_ ?_
  cases oi h
  exact hret _ rfl kn (hs H)
  refine G_ rfl hc16 <| M_ <| V_ <| C_ <| S_ <| us 3 rfl <| A_ <| C_ ?_
  exact ih h  kn (hs H)
  refine G_ rfl hc4 <| Y_ <| K_ <| K_ ?_
  cases oi h
  exact hbrk _ rfl  m_ (hs H)
theorem s44 : ∀ k : Nat, ∀ {a0 : Sl Xat} {a1 : Sl Xat} {r : Bool}, F44 k a0 a1 = some r → Q 44 [(Xar Xao a0), (Xar Xao a1)] (.bool r) := by
 intro k a0 a1 r h
 unfold F44 at h
 refine Qg (pf := Xve) rfl cq rfl fun H => ?_
 refine B_ <| us 1 rfl <| A_ <| I_ <| B_ <| us 1 rfl <| Wl rfl <| us 1 rfl <| Wl rfl <| us 1 rfl <| A_ ?_
 rcases Xa1 h with ⟨hc2, h⟩ | ⟨hc2, h⟩
 refine F_ rfl hc2 <| B_ <| us 1 rfl <| A_ <| Q_ <| H_ ?_
 have h := oi h; subst h
 exact Kr (.bool false) rfl rfl
 refine G_ rfl hc2 <| M_ <| C_ <| I_ <| B_ <| us 1 rfl <| A_ ?_
 obtain ⟨y3, hy3, hOy3⟩ := Xaf h
 refine R_ ?_
 refine Xsz ?_ ?_ hy3  kn (hs H)
 intro y3r he σ S  hk H; subst he; replace h := hOy3; dsimp only at h
 refine J_ hk <| P_ <| H_ ?_
 have h := oi h; subst h
 exact Kr (.bool y3r) rfl rfl
 intro y3b he σ S  hk H; subst he; replace h := hOy3; dsimp only at h
 refine J_ hk <| U_ <| C_ <| B_ <| us 1 rfl <| A_ <| Q_ ?_
 have h := oi h; subst h
 exact Kr (.bool true) rfl rfl
def F14 (k : Nat) (a0 : Xay) (a1 : Xay) : Option Bool :=
 (if (((((((a0.ID == a1.ID) && (a0.Op == a1.Op)) && (a0.Of == a1.Of)) && (a0.DN == a1.DN)) && (a0.Version == a1.Version)) && (a0.Pass == a1.Pass)) && (a0.Scope == a1.Scope)) && (a0.Size == a1.Size) then
 (F42 k a0.Filter a1.Filter).bind fun y2 =>
 some y2
 else
 some false).bind fun y3 =>
 (if y3 then
 (F43 k a0.Wants a1.Wants).bind fun y4 =>
 some y4
 else
 some false).bind fun y5 =>
 (if y5 then
 (F44 k a0.Mods a1.Mods).bind fun y6 =>
 some y6
 else
 some false).bind fun y7 =>
 some ((((((((y7 && (a0.RDN == a1.RDN)) && (a0.DelOld == a1.DelOld)) && (a0.HasSup == a1.HasSup)) && (a0.Sup == a1.Sup)) && (a0.Attr == a1.Attr)) && (a0.Value == a1.Value)) && (a0.Code == a1.Code)) && (a0.Matched == a1.Matched))
theorem s14 : ∀ k : Nat, ∀ {a0 : Xay} {a1 : Xay} {r : Bool}, F14 k a0 a1 = some r → Q 14 [(.agg (Xak a0)), (.agg (Xak a1))] (.bool r) := by
 intro k a0 a1 r h
 unfold F14 at h
 refine Qg (pf := Xvg) rfl cq rfl fun H => ?_
 refine B_ <| Wb H rfl ?_
 intro i1 S hi1 H
 refine Wb H rfl ?_
 intro i2 S hi2 H
 refine us 1 rfl <| A_ <| B_ <| us 1 rfl <| Wg H 1 rfl <| us 1 rfl <| Wg H 0 rfl <| w (.bool (a0.ID == a1.ID)) rfl rfl <| w (.bool (a0.ID == a1.ID)) rfl rfl ?_
 refine O_ 6 (SH H [(2, (.ptr i1 0)), (3, (.ptr i2 0)), (16, (.bool ((a0.ID == a1.ID) && (a0.Op == a1.Op))))]) ?_ ?_
 revert H
 cases hc3 : (a0.ID == a1.ID)
 intro H
 refine us 6 rfl <| A_ ?_
 exact kf H
 intro H
 refine us 1 rfl <| N_ rfl rfl <| Wg H 1 rfl <| us 1 rfl <| N_ rfl rfl <| Wg H 0 rfl <| us 2 rfl <| A_ ?_
 exact kf H
 rintro σ S e ⟨hk, H, rfl⟩
 refine E_ hk <| w (.bool ((a0.ID == a1.ID) && (a0.Op == a1.Op))) rfl rfl ?_
 refine O_ 6 (SH H [(2, (.ptr i1 0)), (3, (.ptr i2 0)), (23, (.bool (((a0.ID == a1.ID) && (a0.Op == a1.Op)) && (a0.Of == a1.Of))))]) ?_ ?_
 revert H
 cases hc4 : ((a0.ID == a1.ID) && (a0.Op == a1.Op))
 intro H
 refine us 6 rfl <| A_ ?_
 exact kf H
 intro H
 refine us 1 rfl <| N_ rfl rfl <| Wg H 1 rfl <| us 1 rfl <| N_ rfl rfl <| Wg H 0 rfl <| us 2 rfl <| A_ ?_
 exact kf H
 rintro σ S e ⟨hk, H, rfl⟩
 refine E_ hk <| w (.bool (((a0.ID == a1.ID) && (a0.Op == a1.Op)) && (a0.Of == a1.Of))) rfl rfl ?_
 refine O_ 6 (SH H [(2, (.ptr i1 0)), (3, (.ptr i2 0)), (30, (.bool ((((a0.ID == a1.ID) && (a0.Op == a1.Op)) && (a0.Of == a1.Of)) && (a0.DN == a1.DN))))]) ?_ ?_
 revert H
 cases hc5 : (((a0.ID == a1.ID) && (a0.Op == a1.Op)) && (a0.Of == a1.Of))
 intro H
 refine us 6 rfl <| A_ ?_
 exact kf H
 intro H
 refine us 1 rfl <| N_ rfl rfl <| Wg H 1 rfl <| us 1 rfl <| N_ rfl rfl <| Wg H 0 rfl <| us 2 rfl <| A_ ?_
 exact kf H
 rintro σ S e ⟨hk, H, rfl⟩
 refine E_ hk <| w (.bool ((((a0.ID == a1.ID) && (a0.Op == a1.Op)) && (a0.Of == a1.Of)) && (a0.DN == a1.DN))) rfl rfl ?_
 refine O_ 6 (SH H [(2, (.ptr i1 0)), (3, (.ptr i2 0)), (37, (.bool (((((a0.ID == a1.ID) && (a0.Op == a1.Op)) && (a0.Of == a1.Of)) && (a0.DN == a1.DN)) && (a0.Version == a1.Version))))]) ?_ ?_
 revert H
 cases hc6 : ((((a0.ID == a1.ID) && (a0.Op == a1.Op)) && (a0.Of == a1.Of)) && (a0.DN == a1.DN))
 intro H
 refine us 6 rfl <| A_ ?_
 exact kf H
 intro H
 refine us 1 rfl <| N_ rfl rfl <| Wg H 1 rfl <| us 1 rfl <| N_ rfl rfl <| Wg H 0 rfl <| us 2 rfl <| A_ ?_
 exact kf H
 rintro σ S e ⟨hk, H, rfl⟩
 refine E_ hk <| w (.bool (((((a0.ID == a1.ID) && (a0.Op == a1.Op)) && (a0.Of == a1.Of)) && (a0.DN == a1.DN)) && (a0.Version == a1.Version))) rfl rfl ?_
 refine O_ 6 (SH H [(2, (.ptr i1 0)), (3, (.ptr i2 0)), (44, (.bool ((((((a0.ID == a1.ID) && (a0.Op == a1.Op)) && (a0.Of == a1.Of)) && (a0.DN == a1.DN)) && (a0.Version == a1.Version)) && (a0.Pass == a1.Pass))))]) ?_ ?_
 revert H
 cases hc7 : (((((a0.ID == a1.ID) && (a0.Op == a1.Op)) && (a0.Of == a1.Of)) && (a0.DN == a1.DN)) && (a0.Version == a1.Version))
 intro H
 refine us 6 rfl <| A_ ?_
 exact kf H
 intro H
 refine us 1 rfl <| N_ rfl rfl <| Wg H 1 rfl <| us 1 rfl <| N_ rfl rfl <| Wg H 0 rfl <| us 2 rfl <| A_ ?_
 exact kf H
 rintro σ S e ⟨hk, H, rfl⟩
 refine E_ hk <| w (.bool ((((((a0.ID == a1.ID) && (a0.Op == a1.Op)) && (a0.Of == a1.Of)) && (a0.DN == a1.DN)) && (a0.Version == a1.Version)) && (a0.Pass == a1.Pass))) rfl rfl ?_
 refine O_ 6 (SH H [(2, (.ptr i1 0)), (3, (.ptr i2 0)), (51, (.bool (((((((a0.ID == a1.ID) && (a0.Op == a1.Op)) && (a0.Of == a1.Of)) && (a0.DN == a1.DN)) && (a0.Version == a1.Version)) && (a0.Pass == a1.Pass)) && (a0.Scope == a1.Scope))))]) ?_ ?_
 revert H
 cases hc8 : ((((((a0.ID == a1.ID) && (a0.Op == a1.Op)) && (a0.Of == a1.Of)) && (a0.DN == a1.DN)) && (a0.Version == a1.Version)) && (a0.Pass == a1.Pass))
 intro H
 refine us 6 rfl <| A_ ?_
 exact kf H
 intro H
 refine us 1 rfl <| N_ rfl rfl <| Wg H 1 rfl <| us 1 rfl <| N_ rfl rfl <| Wg H 0 rfl <| us 2 rfl <| A_ ?_
 exact kf H
 rintro σ S e ⟨hk, H, rfl⟩
 refine E_ hk <| w (.bool (((((((a0.ID == a1.ID) && (a0.Op == a1.Op)) && (a0.Of == a1.Of)) && (a0.DN == a1.DN)) && (a0.Version == a1.Version)) && (a0.Pass == a1.Pass)) && (a0.Scope == a1.Scope))) rfl rfl ?_
 refine O_ 6 (SH H [(2, (.ptr i1 0)), (3, (.ptr i2 0)), (58, (.bool ((((((((a0.ID == a1.ID) && (a0.Op == a1.Op)) && (a0.Of == a1.Of)) && (a0.DN == a1.DN)) && (a0.Version == a1.Version)) && (a0.Pass == a1.Pass)) && (a0.Scope == a1.Scope)) && (a0.Size == a1.Size))))]) ?_ ?_
 revert H
 cases hc9 : (((((((a0.ID == a1.ID) && (a0.Op == a1.Op)) && (a0.Of == a1.Of)) && (a0.DN == a1.DN)) && (a0.Version == a1.Version)) && (a0.Pass == a1.Pass)) && (a0.Scope == a1.Scope))
 intro H
 refine us 6 rfl <| A_ ?_
 exact kf H
 intro H
 refine us 1 rfl <| N_ rfl rfl <| Wg H 1 rfl <| us 1 rfl <| N_ rfl rfl <| Wg H 0 rfl <| us 2 rfl <| A_ ?_
 exact kf H
 rintro σ S e ⟨hk, H, rfl⟩
 refine E_ hk <| w (.bool ((((((((a0.ID == a1.ID) && (a0.Op == a1.Op)) && (a0.Of == a1.Of)) && (a0.DN == a1.DN)) && (a0.Version == a1.Version)) && (a0.Pass == a1.Pass)) && (a0.Scope == a1.Scope)) && (a0.Size == a1.Size))) rfl rfl ?_
 obtain ⟨y10, hy10, hOy10⟩ := Xaf h
 refine O_ 6 (SJ [(2, (.ptr i1 0)), (3, (.ptr i2 0)), (65, (.bool y10))] [] [] [(i2, .cells (Xak a1)), (i1, .cells (Xak a0))] [] [] false) ?_ ?_
 replace h := hy10
 revert H
 cases hc11 : ((((((((a0.ID == a1.ID) && (a0.Op == a1.Op)) && (a0.Of == a1.Of)) && (a0.DN == a1.DN)) && (a0.Version == a1.Version)) && (a0.Pass == a1.Pass)) && (a0.Scope == a1.Scope)) && (a0.Size == a1.Size))
 intro H
 replace h := Xc5 h hc11
 refine us 6 rfl <| A_ ?_
 cases oi h
 exact kh H
 intro H
 replace h := Xc4 h hc11
 refine us 1 rfl <| N_ rfl rfl <| Wg H 1 rfl <| us 1 rfl <| N_ rfl rfl <| Wg H 0 rfl <| N_ rfl rfl ?_
 obtain ⟨y12, hy12, h⟩ := Xaf h
 refine Cl (.bool y12) [(.agg (Xag a0.Filter)), (.agg (Xag a1.Filter))] rfl rfl (sv (s42 _ hy12)) <| us 1 rfl <| A_ ?_
 cases oi h
 exact kh H
 rintro σ S e ⟨hk, H, rfl⟩
 replace h := hOy10
 refine E_ hk <| us 1 rfl ?_
 obtain ⟨y13, hy13, hOy13⟩ := Xaf h
 refine O_ 6 (SJ [(2, (.ptr i1 0)), (3, (.ptr i2 0)), (72, (.bool y13))] [] [] [(i2, .cells (Xak a1)), (i1, .cells (Xak a0))] [] [] false) ?_ ?_
 replace h := hy13
 revert H
 cases hc14 : y10
 intro H
 replace h := Xc5 h hc14
 refine us 6 rfl <| A_ ?_
 cases oi h
 exact kh H
 intro H
 replace h := Xc4 h hc14
 refine us 1 rfl <| N_ rfl rfl <| Wg H 1 rfl <| us 1 rfl <| N_ rfl rfl <| Wg H 0 rfl <| N_ rfl rfl ?_
 obtain ⟨y15, hy15, h⟩ := Xaf h
 refine Cl (.bool y15) [(Xar eS a0.Wants), (Xar eS a1.Wants)] rfl (fe rfl (fe rfl rfl)) (sv (s43 _ hy15)) <| us 1 rfl <| A_ ?_
 cases oi h
 exact kh H
 rintro σ S e ⟨hk, H, rfl⟩
 replace h := hOy13
 refine E_ hk <| us 1 rfl ?_
 obtain ⟨y16, hy16, hOy16⟩ := Xaf h
 refine O_ 6 (SJ [(2, (.ptr i1 0)), (3, (.ptr i2 0)), (79, (.bool y16))] [] [] [(i2, .cells (Xak a1)), (i1, .cells (Xak a0))] [] [] false) ?_ ?_
 replace h := hy16
 revert H
 cases hc17 : y13
 intro H
 replace h := Xc5 h hc17
 refine us 6 rfl <| A_ ?_
 cases oi h
 exact kh H
 intro H
 replace h := Xc4 h hc17
 refine us 1 rfl <| N_ rfl rfl <| Wg H 1 rfl <| us 1 rfl <| N_ rfl rfl <| Wg H 0 rfl <| N_ rfl rfl ?_
 obtain ⟨y18, hy18, h⟩ := Xaf h
 refine Cl (.bool y18) [(Xar Xao a0.Mods), (Xar Xao a1.Mods)] rfl (fe rfl (fe rfl rfl)) (sv (s44 _ hy18)) <| us 1 rfl <| A_ ?_
 cases oi h
 exact kh H
 rintro σ S e ⟨hk, H, rfl⟩
 replace h := hOy16
 refine E_ hk <| us 1 rfl ?_
 refine O_ 6 (SH H [(2, (.ptr i1 0)), (3, (.ptr i2 0)), (86, (.bool (y16 && (a0.RDN == a1.RDN))))]) ?_ ?_
 revert H
 cases hc19 : y16
 intro H
 refine us 6 rfl <| A_ ?_
 exact kf H
 intro H
 refine us 1 rfl <| N_ rfl rfl <| Wg H 1 rfl <| us 1 rfl <| N_ rfl rfl <| Wg H 0 rfl <| us 2 rfl <| A_ ?_
 exact kf H
 rintro σ S e ⟨hk, H, rfl⟩
 refine E_ hk <| w (.bool (y16 && (a0.RDN == a1.RDN))) rfl rfl ?_
 refine O_ 6 (SH H [(2, (.ptr i1 0)), (3, (.ptr i2 0)), (93, (.bool ((y16 && (a0.RDN == a1.RDN)) && (a0.DelOld == a1.DelOld))))]) ?_ ?_
 revert H
 cases hc20 : (y16 && (a0.RDN == a1.RDN))
 intro H
 refine us 6 rfl <| A_ ?_
 exact kf H
 intro H
 refine us 1 rfl <| N_ rfl rfl <| Wg H 1 rfl <| us 1 rfl <| N_ rfl rfl <| Wg H 0 rfl <| us 2 rfl <| A_ ?_
 exact kf H
 rintro σ S e ⟨hk, H, rfl⟩
 refine E_ hk <| w (.bool ((y16 && (a0.RDN == a1.RDN)) && (a0.DelOld == a1.DelOld))) rfl rfl ?_
 refine O_ 6 (SH H [(2, (.ptr i1 0)), (3, (.ptr i2 0)), (100, (.bool (((y16 && (a0.RDN == a1.RDN)) && (a0.DelOld == a1.DelOld)) && (a0.HasSup == a1.HasSup))))]) ?_ ?_
 revert H
 cases hc21 : ((y16 && (a0.RDN == a1.RDN)) && (a0.DelOld == a1.DelOld))
 intro H
 refine us 6 rfl <| A_ ?_
 exact kf H
 intro H
 refine us 1 rfl <| N_ rfl rfl <| Wg H 1 rfl <| us 1 rfl <| N_ rfl rfl <| Wg H 0 rfl <| us 2 rfl <| A_ ?_
 exact kf H
 rintro σ S e ⟨hk, H, rfl⟩
 refine E_ hk <| w (.bool (((y16 && (a0.RDN == a1.RDN)) && (a0.DelOld == a1.DelOld)) && (a0.HasSup == a1.HasSup))) rfl rfl ?_
 refine O_ 6 (SH H [(2, (.ptr i1 0)), (3, (.ptr i2 0)), (107, (.bool ((((y16 && (a0.RDN == a1.RDN)) && (a0.DelOld == a1.DelOld)) && (a0.HasSup == a1.HasSup)) && (a0.Sup == a1.Sup))))]) ?_ ?_
 revert H
 cases hc22 : (((y16 && (a0.RDN == a1.RDN)) && (a0.DelOld == a1.DelOld)) && (a0.HasSup == a1.HasSup))
 intro H
 refine us 6 rfl <| A_ ?_
 exact kf H
 intro H
 refine us 1 rfl <| N_ rfl rfl <| Wg H 1 rfl <| us 1 rfl <| N_ rfl rfl <| Wg H 0 rfl <| us 2 rfl <| A_ ?_
 exact kf H
 rintro σ S e ⟨hk, H, rfl⟩
 refine E_ hk <| w (.bool ((((y16 && (a0.RDN == a1.RDN)) && (a0.DelOld == a1.DelOld)) && (a0.HasSup == a1.HasSup)) && (a0.Sup == a1.Sup))) rfl rfl ?_
 refine O_ 6 (SH H [(2, (.ptr i1 0)), (3, (.ptr i2 0)), (114, (.bool (((((y16 && (a0.RDN == a1.RDN)) && (a0.DelOld == a1.DelOld)) && (a0.HasSup == a1.HasSup)) && (a0.Sup == a1.Sup)) && (a0.Attr == a1.Attr))))]) ?_ ?_
 revert H
 cases hc23 : ((((y16 && (a0.RDN == a1.RDN)) && (a0.DelOld == a1.DelOld)) && (a0.HasSup == a1.HasSup)) && (a0.Sup == a1.Sup))
 intro H
 refine us 6 rfl <| A_ ?_
 exact kf H
 intro H
 refine us 1 rfl <| N_ rfl rfl <| Wg H 1 rfl <| us 1 rfl <| N_ rfl rfl <| Wg H 0 rfl <| us 2 rfl <| A_ ?_
 exact kf H
 rintro σ S e ⟨hk, H, rfl⟩
 refine E_ hk <| w (.bool (((((y16 && (a0.RDN == a1.RDN)) && (a0.DelOld == a1.DelOld)) && (a0.HasSup == a1.HasSup)) && (a0.Sup == a1.Sup)) && (a0.Attr == a1.Attr))) rfl rfl ?_
 refine O_ 6 (SH H [(2, (.ptr i1 0)), (3, (.ptr i2 0)), (121, (.bool ((((((y16 && (a0.RDN == a1.RDN)) && (a0.DelOld == a1.DelOld)) && (a0.HasSup == a1.HasSup)) && (a0.Sup == a1.Sup)) && (a0.Attr == a1.Attr)) && (a0.Value == a1.Value))))]) ?_ ?_
 revert H
 cases hc24 : (((((y16 && (a0.RDN == a1.RDN)) && (a0.DelOld == a1.DelOld)) && (a0.HasSup == a1.HasSup)) && (a0.Sup == a1.Sup)) && (a0.Attr == a1.Attr))
 intro H
 refine us 6 rfl <| A_ ?_
 exact kf H
 intro H
 refine us 1 rfl <| N_ rfl rfl <| Wg H 1 rfl <| us 1 rfl <| N_ rfl rfl <| Wg H 0 rfl <| us 2 rfl <| A_ ?_
 exact kf H
 rintro σ S e ⟨hk, H, rfl⟩
 refine E_ hk <| w (.bool ((((((y16 && (a0.RDN == a1.RDN)) && (a0.DelOld == a1.DelOld)) && (a0.HasSup == a1.HasSup)) && (a0.Sup == a1.Sup)) && (a0.Attr == a1.Attr)) && (a0.Value == a1.Value))) rfl rfl ?_
 refine O_ 6 (SH H [(2, (.ptr i1 0)), (3, (.ptr i2 0)), (128, (.bool (((((((y16 && (a0.RDN == a1.RDN)) && (a0.DelOld == a1.DelOld)) && (a0.HasSup == a1.HasSup)) && (a0.Sup == a1.Sup)) && (a0.Attr == a1.Attr)) && (a0.Value == a1.Value)) && (a0.Code == a1.Code))))]) ?_ ?_
 revert H
 cases hc25 : ((((((y16 && (a0.RDN == a1.RDN)) && (a0.DelOld == a1.DelOld)) && (a0.HasSup == a1.HasSup)) && (a0.Sup == a1.Sup)) && (a0.Attr == a1.Attr)) && (a0.Value == a1.Value))
 intro H
 refine us 6 rfl <| A_ ?_
 exact kf H
 intro H
 refine us 1 rfl <| N_ rfl rfl <| Wg H 1 rfl <| us 1 rfl <| N_ rfl rfl <| Wg H 0 rfl <| us 2 rfl <| A_ ?_
 exact kf H
 rintro σ S e ⟨hk, H, rfl⟩
 refine E_ hk <| w (.bool (((((((y16 && (a0.RDN == a1.RDN)) && (a0.DelOld == a1.DelOld)) && (a0.HasSup == a1.HasSup)) && (a0.Sup == a1.Sup)) && (a0.Attr == a1.Attr)) && (a0.Value == a1.Value)) && (a0.Code == a1.Code))) rfl rfl ?_
 refine O_ 6 (SH H [(135, (.bool ((((((((y16 && (a0.RDN == a1.RDN)) && (a0.DelOld == a1.DelOld)) && (a0.HasSup == a1.HasSup)) && (a0.Sup == a1.Sup)) && (a0.Attr == a1.Attr)) && (a0.Value == a1.Value)) && (a0.Code == a1.Code)) && (a0.Matched == a1.Matched))))]) ?_ ?_
 revert H
 cases hc26 : (((((((y16 && (a0.RDN == a1.RDN)) && (a0.DelOld == a1.DelOld)) && (a0.HasSup == a1.HasSup)) && (a0.Sup == a1.Sup)) && (a0.Attr == a1.Attr)) && (a0.Value == a1.Value)) && (a0.Code == a1.Code))
 intro H
 refine us 6 rfl <| A_ ?_
 exact kf H
 intro H
 refine us 1 rfl <| N_ rfl rfl <| Wg H 1 rfl <| us 1 rfl <| N_ rfl rfl <| Wg H 0 rfl <| us 2 rfl <| A_ ?_
 exact kf H
 rintro σ S e ⟨hk, H, rfl⟩
 refine E_ hk <| us 1 rfl <| A_ <| Q_ ?_
 cases oi h
 exact Kr (.bool ((((((((y16 && (a0.RDN == a1.RDN)) && (a0.DelOld == a1.DelOld)) && (a0.HasSup == a1.HasSup)) && (a0.Sup == a1.Sup)) && (a0.Attr == a1.Attr)) && (a0.Value == a1.Value)) && (a0.Code == a1.Code)) && (a0.Matched == a1.Matched))) rfl rfl
def F34 (k : Nat) (a0 : Xay) : Option Xay :=
 (if a0.Op == 1 then
 some (Xay.mk a0.ID a0.Op 0 a0.DN a0.Version a0.Pass 0 0 (Xae.mk 0 [] [] none none) none none [] false false [] [] [] 0 [])
 else
 (if a0.Op == 3 then
 some (Xay.mk a0.ID a0.Op 0 a0.DN 0 [] a0.Scope a0.Size a0.Filter a0.Wants none [] false false [] [] [] 0 [])
 else
 (if a0.Op == 4 then
 some (a0.Op == 4)
 else
 (if a0.Op == 5 then
 some (a0.Op == 5)
 else
 some (a0.Op == 10)).bind fun y1 =>
 some y1).bind fun y2 =>
 (if y2 then
 some (Xay.mk a0.ID a0.Op 0 a0.DN 0 [] 0 0 (Xae.mk 0 [] [] none none) none a0.Mods [] false false [] [] [] 0 [])
 else
 (if a0.Op == 6 then
 some (Xay.mk a0.ID a0.Op 0 a0.DN 0 [] 0 0 (Xae.mk 0 [] [] none none) none none [] false false [] [] [] 0 [])
 else
 (if a0.Op == 7 then
 (if a0.HasSup then
 some (Xay.mk a0.ID a0.Op 0 a0.DN 0 [] 0 0 (Xae.mk 0 [] [] none none) none none a0.RDN a0.DelOld a0.HasSup a0.Sup [] [] 0 [])
 else
 some (Xay.mk a0.ID a0.Op 0 a0.DN 0 [] 0 0 (Xae.mk 0 [] [] none none) none none a0.RDN a0.DelOld a0.HasSup [] [] [] 0 [])).bind fun y3 =>
 some y3
 else
 (if a0.Op == 8 then
 some (Xay.mk a0.ID a0.Op 0 a0.DN 0 [] 0 0 (Xae.mk 0 [] [] none none) none none [] false false [] a0.Attr a0.Value 0 [])
 else
 (if a0.Op == 9 then
 some (Xay.mk a0.ID a0.Op a0.Of [] 0 [] 0 0 (Xae.mk 0 [] [] none none) none none [] false false [] [] [] a0.Code a0.Matched)
 else
 some (Xay.mk a0.ID a0.Op 0 [] 0 [] 0 0 (Xae.mk 0 [] [] none none) none none [] false false [] [] [] 0 [])).bind fun y4 =>
 some y4).bind fun y5 =>
 some y5).bind fun y6 =>
 some y6).bind fun y7 =>
 some y7).bind fun y8 =>
 some y8).bind fun y9 =>
 some y9).bind fun y10 =>
 some y10
theorem s34 : ∀ k : Nat, ∀ {a0 : Xay} {r : Xay}, F34 k a0 = some r → Q 34 [(.agg (Xak a0))] (.agg (Xak r)) := by
 intro k a0 r h vs ha S
 unfold F34 at h
 refine e_ (pf := XtI) rfl rfl ha (D_ rfl) cq cq ?_
 refine o_ (pf := XtI) rfl ?_
 have H := g_ []
 refine B_ <| Wb H rfl ?_
 intro i1 S hi1 H
 refine Wa (ti := XgD) H rfl ?_
 intro i2 S hi2 H
 refine A_ <| B_ <| us 1 rfl <| Wg H 1 rfl <| us 1 rfl <| Wg H 1 rfl <| w (.agg [(.int .i64 a0.ID), (.int .i64 a0.Op), (.int .i64 0), (.str []), (.int .i64 0), (.str []), (.int .i64 0), (.int .i64 0), (.int .i64 0), (.str []), (.str []), .nils, .nils, .nils, .nils, (.str []), (.bool false), (.bool false), (.str []), (.str []), (.str []), (.int .i64 0), (.str [])]) rfl (nz rfl (XaH (ti := XgD) rfl rfl rfl rfl rfl (Xav rfl rfl rfl rfl (D_ rfl) rfl (Xav rfl rfl rfl rfl (D_ rfl) rfl rfl)))) <| Wa (ti := XgD) H rfl ?_
 intro i3 S hi3 H
 refine Ws 0 H hi3 rfl ?_
 intro S H
 refine A_ <| I_ <| B_ <| us 1 rfl <| Wg H 2 rfl <| A_ <| R_ <| B_ <| us 2 rfl <| A_ ?_
 obtain ⟨y4, hy4, hOy4⟩ := Xaf h
 refine a_ (fun σ' S' e' => ∃ v5, ∃ v6, ∃ v7, ∃ v8, Xa8 eS y4.Filter.Subs v5 ∧ Xa8 Xan y4.Filter.Kids v6 ∧ Xa8 eS y4.Wants v7 ∧ Xa8 Xao y4.Mods v8 ∧ Xa2 ([(2, (.ptr i2 0)), (3, (.ptr i3 0))]) σ' ∧ Hp [] [] S' [(i3, .cells (XaO y4 v5 v6 v7 v8)), (i2, .cells z0_), (i1, .cells (Xak a0))] [] [] ∧ e' = false) ?_ ?_
 replace h := hy4
 rcases Xa1 h with ⟨hc10, h⟩ | ⟨hc10, h⟩
 refine F_ rfl hc10 <| j_ <| wk _ rfl rfl rfl rfl <| wkl H 2 rfl rfl rfl rfl <| wk _ rfl rfl rfl rfl <| wkl H 2 rfl rfl rfl rfl <| wk _ rfl rfl rfl rfl <| wkl H 2 rfl rfl rfl rfl <| wk _ rfl rfl rfl rfl ?_
 have Hh29109 := H
 refine Wsk 0 H hi3 rfl ?_
 intro S H
 refine ⟨(Xah (ld (H.get 2 rfl) rfl) (Xah (ld (H.get 2 rfl) rfl) (Xah (ld (H.get 2 rfl) rfl) Xa9))), ?_⟩
 refine wk _ rfl rfl rfl rfl ?_
 have Hh29110 := H
 refine Wsk 0 H hi3 rfl ?_
 intro S H
 refine ⟨(Xah (ld (H.get 2 rfl) rfl) (Xah (ld (H.get 2 rfl) rfl) (Xah (ld (H.get 2 rfl) rfl) Xa9))), ?_⟩
 refine WK.nil <| us 1 rfl <| Ws 0 H hi3 rfl ?_
 intro S H
 refine A_ <| C_ ?_
 have h := oi h; subst h
 exact ⟨.nils, .nils, .nils, .nils, (Xam _), (Xam _), (Xam _), (Xam _), kn, (hs H), rfl⟩
 refine G_ rfl hc10 <| B_ <| us 2 rfl <| A_ ?_
 obtain ⟨y11, hy11, hOy11⟩ := Xaf h
 refine a_ (fun σ' S' e' => ∃ v12, ∃ v13, ∃ v14, ∃ v15, Xa8 eS y11.Filter.Subs v12 ∧ Xa8 Xan y11.Filter.Kids v13 ∧ Xa8 eS y11.Wants v14 ∧ Xa8 Xao y11.Mods v15 ∧ Xa2 ([(2, (.ptr i2 0)), (3, (.ptr i3 0))]) σ' ∧ Hp [] [] S' [(i3, .cells (XaO y11 v12 v13 v14 v15)), (i2, .cells z0_), (i1, .cells (Xak a0))] [] [] ∧ e' = false) ?_ ?_
 replace h := hy11
 rcases Xa1 h with ⟨hc16, h⟩ | ⟨hc16, h⟩
 refine F_ rfl hc16 <| j_ <| wk _ rfl rfl rfl rfl <| wkl H 2 rfl rfl rfl rfl <| wk _ rfl rfl rfl rfl <| wkl H 2 rfl rfl rfl rfl <| wk _ rfl rfl rfl rfl <| wkl H 2 rfl rfl rfl rfl <| wk _ rfl rfl rfl rfl <| wkl H 2 rfl rfl rfl rfl <| wk _ rfl rfl rfl rfl <| wkl H 2 rfl rfl rfl rfl <| wk _ rfl rfl rfl rfl ?_
 have Hh32990 := H
 refine Wsk 0 H hi3 rfl ?_
 intro S H
 refine ⟨(Xah (ld (H.get 2 rfl) rfl) (Xah (ld (H.get 2 rfl) rfl) (Xah (ld (H.get 2 rfl) rfl) (Xah (ld (H.get 2 rfl) rfl) (Xah (ld (H.get 2 rfl) rfl) Xa9))))), ?_⟩
 refine wk _ rfl rfl rfl rfl ?_
 have Hh32991 := H
 refine Wsk 0 H hi3 rfl ?_
 intro S H
 refine ⟨(Xah (ld (H.get 2 rfl) rfl) (Xah (ld (H.get 2 rfl) rfl) (Xah (ld (H.get 2 rfl) rfl) (Xah (ld (H.get 2 rfl) rfl) (Xah (ld (H.get 2 rfl) rfl) Xa9))))), ?_⟩
 refine wk _ rfl rfl rfl rfl ?_
 have Hh32992 := H
 refine Wsk 0 H hi3 rfl ?_
 intro S H
 refine ⟨(Xah (ld (H.get 2 rfl) rfl) (Xah (ld (H.get 2 rfl) rfl) (Xah (ld (H.get 2 rfl) rfl) (Xah (ld (H.get 2 rfl) rfl) (Xah (ld (H.get 2 rfl) rfl) Xa9))))), ?_⟩
 refine wk _ rfl rfl rfl rfl ?_
 have Hh32993 := H
 refine Wsk 0 H hi3 rfl ?_
 intro S H
 refine ⟨(Xah (ld (H.get 2 rfl) rfl) (Xah (ld (H.get 2 rfl) rfl) (Xah (ld (H.get 2 rfl) rfl) (Xah (ld (H.get 2 rfl) rfl) (Xah (ld (H.get 2 rfl) rfl) Xa9))))), ?_⟩
 refine WK.nil <| us 1 rfl <| WO.store 0 rfl (fe rfl rfl) H rfl rfl rfl rfl (c_ _ _).one.1 (c_ _ _).one.2 rfl (D_ rfl) rfl (XeQ hi3) ?_
 intro S H
 refine A_ <| C_ ?_
 have h := oi h; subst h
 exact ⟨(Xar eS a0.Filter.Subs), (Xar Xan a0.Filter.Kids), (Xar eS a0.Wants), .nils, (c_ _ _), (c_ _ _), (c_ _ _), (Xam _), kn, (hs H), rfl⟩
 refine G_ rfl hc16 <| I_ <| B_ <| us 2 rfl <| A_ ?_
 obtain ⟨y17, hy17, hOy17⟩ := Xaf h
 refine a_ (SJ [(1, (.ptr i1 0)), (2, (.ptr i2 0)), (3, (.ptr i3 0)), (10, (.int .i64 a0.Op)), (39, (.bool y17))] [] [] [(i3, .cells [(.int .i64 a0.ID), (.int .i64 a0.Op), (.int .i64 0), (.str []), (.int .i64 0), (.str []), (.int .i64 0), (.int .i64 0), (.int .i64 0), (.str []), (.str []), .nils, .nils, .nils, .nils, (.str []), (.bool false), (.bool false), (.str []), (.str []), (.str []), (.int .i64 0), (.str [])]), (i2, .cells z0_), (i1, .cells (Xak a0))] [] [] false) ?_ ?_
 replace h := hy17
 rcases Xa1 h with ⟨hc18, h⟩ | ⟨hc18, h⟩
 refine F_ rfl hc18 <| M_ <| C_ ?_
 have h := oi h; subst h
 exact kh H
 refine G_ rfl hc18 <| B_ <| us 2 rfl <| A_ ?_
 obtain ⟨y19, hy19, hOy19⟩ := Xaf h
 refine a_ (SJ [(1, (.ptr i1 0)), (2, (.ptr i2 0)), (3, (.ptr i3 0)), (10, (.int .i64 a0.Op)), (39, (.bool y19))] [] [] [(i3, .cells [(.int .i64 a0.ID), (.int .i64 a0.Op), (.int .i64 0), (.str []), (.int .i64 0), (.str []), (.int .i64 0), (.int .i64 0), (.int .i64 0), (.str []), (.str []), .nils, .nils, .nils, .nils, (.str []), (.bool false), (.bool false), (.str []), (.str []), (.str []), (.int .i64 0), (.str [])]), (i2, .cells z0_), (i1, .cells (Xak a0))] [] [] false) ?_ ?_
 replace h := hy19
 rcases Xa1 h with ⟨hc20, h⟩ | ⟨hc20, h⟩
 refine F_ rfl hc20 <| M_ <| C_ ?_
 have h := oi h; subst h
 exact kh H
 refine G_ rfl hc20 <| S_ <| us 2 rfl <| A_ <| C_ ?_
 have h := oi h; subst h
 exact kh H
 rintro σ S e ⟨hk, H, rfl⟩
 replace h := hOy19
 refine J_ hk <| C_ ?_
 have h := oi h; subst h
 exact kh H
 rintro σ S e ⟨hk, H, rfl⟩
 replace h := hOy17
 refine J_ hk <| C_ ?_
 obtain ⟨y21, hy21, hOy21⟩ := Xaf h
 refine a_ (fun σ' S' e' => ∃ v22, ∃ v23, ∃ v24, ∃ v25, Xa8 eS y21.Filter.Subs v22 ∧ Xa8 Xan y21.Filter.Kids v23 ∧ Xa8 eS y21.Wants v24 ∧ Xa8 Xao y21.Mods v25 ∧ Xa2 ([(2, (.ptr i2 0)), (3, (.ptr i3 0))]) σ' ∧ Hp [] [] S' [(i3, .cells (XaO y21 v22 v23 v24 v25)), (i2, .cells z0_), (i1, .cells (Xak a0))] [] [] ∧ e' = false) ?_ ?_
 replace h := hy21
 rcases Xa1 h with ⟨hc26, h⟩ | ⟨hc26, h⟩
 refine F_ rfl hc26 <| j_ <| wk _ rfl rfl rfl rfl <| wkl H 2 rfl rfl rfl rfl <| wk _ rfl rfl rfl rfl <| wkl H 2 rfl rfl rfl rfl <| wk _ rfl rfl rfl rfl ?_
 have Hh34289 := H
 refine Wsk 0 H hi3 rfl ?_
 intro S H
 refine ⟨(Xah (ld (H.get 2 rfl) rfl) (Xah (ld (H.get 2 rfl) rfl) Xa9)), ?_⟩
 refine WK.nil <| us 1 rfl <| WO.store 0 rfl (fe rfl rfl) H rfl rfl rfl rfl (c_ _ _).one.1 (c_ _ _).one.2 rfl (D_ rfl) rfl (XeQ hi3) ?_
 intro S H
 refine A_ <| C_ ?_
 have h := oi h; subst h
 exact ⟨.nils, .nils, .nils, (Xar Xao a0.Mods), (Xam _), (Xam _), (Xam _), (c_ _ _), kn, (hs H), rfl⟩
 refine G_ rfl hc26 <| B_ <| us 2 rfl <| A_ ?_
 obtain ⟨y27, hy27, hOy27⟩ := Xaf h
 refine a_ (fun σ' S' e' => ∃ v28, ∃ v29, ∃ v30, ∃ v31, Xa8 eS y27.Filter.Subs v28 ∧ Xa8 Xan y27.Filter.Kids v29 ∧ Xa8 eS y27.Wants v30 ∧ Xa8 Xao y27.Mods v31 ∧ Xa2 ([(2, (.ptr i2 0)), (3, (.ptr i3 0))]) σ' ∧ Hp [] [] S' [(i3, .cells (XaO y27 v28 v29 v30 v31)), (i2, .cells z0_), (i1, .cells (Xak a0))] [] [] ∧ e' = false) ?_ ?_
 replace h := hy27
 rcases Xa1 h with ⟨hc32, h⟩ | ⟨hc32, h⟩
 refine F_ rfl hc32 <| S_ <| us 1 rfl <| Wg H 2 rfl <| us 1 rfl <| Ws 0 H hi3 rfl ?_
 intro S H
 refine A_ <| C_ ?_
 have h := oi h; subst h
 exact ⟨.nils, .nils, .nils, .nils, (Xam _), (Xam _), (Xam _), (Xam _), kn, (hs H), rfl⟩
 refine G_ rfl hc32 <| B_ <| us 2 rfl <| A_ ?_
 obtain ⟨y33, hy33, hOy33⟩ := Xaf h
 refine a_ (fun σ' S' e' => ∃ v34, ∃ v35, ∃ v36, ∃ v37, Xa8 eS y33.Filter.Subs v34 ∧ Xa8 Xan y33.Filter.Kids v35 ∧ Xa8 eS y33.Wants v36 ∧ Xa8 Xao y33.Mods v37 ∧ Xa2 ([(2, (.ptr i2 0)), (3, (.ptr i3 0))]) σ' ∧ Hp [] [] S' [(i3, .cells (XaO y33 v34 v35 v36 v37)), (i2, .cells z0_), (i1, .cells (Xak a0))] [] [] ∧ e' = false) ?_ ?_
 replace h := hy33
 rcases Xa1 h with ⟨hc38, h⟩ | ⟨hc38, h⟩
 refine F_ rfl hc38 <| I_ <| j_ <| wk _ rfl rfl rfl rfl <| wkl H 2 rfl rfl rfl rfl <| wk _ rfl rfl rfl rfl <| wkl H 2 rfl rfl rfl rfl <| wk _ rfl rfl rfl rfl <| wkl H 2 rfl rfl rfl rfl <| wk _ rfl rfl rfl rfl <| wkl H 2 rfl rfl rfl rfl <| wk _ rfl rfl rfl rfl ?_
 have Hh34856 := H
 refine Wsk 0 H hi3 rfl ?_
 intro S H
 refine ⟨(Xah (ld (H.get 2 rfl) rfl) (Xah (ld (H.get 2 rfl) rfl) (Xah (ld (H.get 2 rfl) rfl) (Xah (ld (H.get 2 rfl) rfl) Xa9)))), ?_⟩
 refine wk _ rfl rfl rfl rfl ?_
 have Hh34857 := H
 refine Wsk 0 H hi3 rfl ?_
 intro S H
 refine ⟨(Xah (ld (H.get 2 rfl) rfl) (Xah (ld (H.get 2 rfl) rfl) (Xah (ld (H.get 2 rfl) rfl) (Xah (ld (H.get 2 rfl) rfl) Xa9)))), ?_⟩
 refine wk _ rfl rfl rfl rfl ?_
 have Hh34858 := H
 refine Wsk 0 H hi3 rfl ?_
 intro S H
 refine ⟨(Xah (ld (H.get 2 rfl) rfl) (Xah (ld (H.get 2 rfl) rfl) (Xah (ld (H.get 2 rfl) rfl) (Xah (ld (H.get 2 rfl) rfl) Xa9)))), ?_⟩
 refine WK.nil <| us 1 rfl <| Ws 0 H hi3 rfl ?_
 intro S H
 refine A_ <| C_ <| B_ <| us 1 rfl <| Wg H 2 rfl <| A_ ?_
 obtain ⟨y39, hy39, hOy39⟩ := Xaf h
 refine a_ (fun σ' S' e' => ∃ v40, ∃ v41, ∃ v42, ∃ v43, Xa8 eS y39.Filter.Subs v40 ∧ Xa8 Xan y39.Filter.Kids v41 ∧ Xa8 eS y39.Wants v42 ∧ Xa8 Xao y39.Mods v43 ∧ Xa2 ([(2, (.ptr i2 0)), (3, (.ptr i3 0))]) σ' ∧ Hp [] [] S' [(i3, .cells (XaO y39 v40 v41 v42 v43)), (i2, .cells z0_), (i1, .cells (Xak a0))] [] [] ∧ e' = false) ?_ ?_
 replace h := hy39
 rcases Xa1 h with ⟨hc44, h⟩ | ⟨hc44, h⟩
 refine F_ rfl hc44 <| S_ <| us 1 rfl <| Wg H 2 rfl <| us 1 rfl <| Ws 0 H hi3 rfl ?_
 intro S H
 refine A_ <| C_ ?_
 have h := oi h; subst h
 exact ⟨.nils, .nils, .nils, .nils, (Xam _), (Xam _), (Xam _), (Xam _), kn, (hs H), rfl⟩
 refine G_ rfl hc44 <| M_ <| C_ ?_
 have h := oi h; subst h
 exact ⟨.nils, .nils, .nils, .nils, (Xam _), (Xam _), (Xam _), (Xam _), kn, (hs H), rfl⟩
 rintro σ S e ⟨v40, v41, v42, v43, hv40, hv41, hv42, hv43, hk, H, rfl⟩
 replace h := hOy39
 refine J_ hk <| C_ ?_
 have h := oi h; subst h
 exact ⟨v40, v41, v42, v43, hv40, hv41, hv42, hv43, kn, (hs H), rfl⟩
 refine G_ rfl hc38 <| B_ <| us 2 rfl <| A_ ?_
 obtain ⟨y45, hy45, hOy45⟩ := Xaf h
 refine a_ (fun σ' S' e' => ∃ v46, ∃ v47, ∃ v48, ∃ v49, Xa8 eS y45.Filter.Subs v46 ∧ Xa8 Xan y45.Filter.Kids v47 ∧ Xa8 eS y45.Wants v48 ∧ Xa8 Xao y45.Mods v49 ∧ Xa2 ([(2, (.ptr i2 0)), (3, (.ptr i3 0))]) σ' ∧ Hp [] [] S' [(i3, .cells (XaO y45 v46 v47 v48 v49)), (i2, .cells z0_), (i1, .cells (Xak a0))] [] [] ∧ e' = false) ?_ ?_
 replace h := hy45
 rcases Xa1 h with ⟨hc50, h⟩ | ⟨hc50, h⟩
 refine F_ rfl hc50 <| j_ <| wk _ rfl rfl rfl rfl <| wkl H 2 rfl rfl rfl rfl <| wk _ rfl rfl rfl rfl <| wkl H 2 rfl rfl rfl rfl <| wk _ rfl rfl rfl rfl <| wkl H 2 rfl rfl rfl rfl <| wk _ rfl rfl rfl rfl ?_
 have Hh34906 := H
 refine Wsk 0 H hi3 rfl ?_
 intro S H
 refine ⟨(Xah (ld (H.get 2 rfl) rfl) (Xah (ld (H.get 2 rfl) rfl) (Xah (ld (H.get 2 rfl) rfl) Xa9))), ?_⟩
 refine wk _ rfl rfl rfl rfl ?_
 have Hh34907 := H
 refine Wsk 0 H hi3 rfl ?_
 intro S H
 refine ⟨(Xah (ld (H.get 2 rfl) rfl) (Xah (ld (H.get 2 rfl) rfl) (Xah (ld (H.get 2 rfl) rfl) Xa9))), ?_⟩
 refine WK.nil <| us 1 rfl <| Ws 0 H hi3 rfl ?_
 intro S H
 refine A_ <| C_ ?_
 have h := oi h; subst h
 exact ⟨.nils, .nils, .nils, .nils, (Xam _), (Xam _), (Xam _), (Xam _), kn, (hs H), rfl⟩
 refine G_ rfl hc50 <| B_ <| us 2 rfl <| A_ ?_
 obtain ⟨y51, hy51, hOy51⟩ := Xaf h
 refine a_ (fun σ' S' e' => ∃ v52, ∃ v53, ∃ v54, ∃ v55, Xa8 eS y51.Filter.Subs v52 ∧ Xa8 Xan y51.Filter.Kids v53 ∧ Xa8 eS y51.Wants v54 ∧ Xa8 Xao y51.Mods v55 ∧ Xa2 ([(2, (.ptr i2 0)), (3, (.ptr i3 0))]) σ' ∧ Hp [] [] S' [(i3, .cells (XaO y51 v52 v53 v54 v55)), (i2, .cells z0_), (i1, .cells (Xak a0))] [] [] ∧ e' = false) ?_ ?_
 replace h := hy51
 rcases Xa1 h with ⟨hc56, h⟩ | ⟨hc56, h⟩
 refine F_ rfl hc56 <| j_ <| wk _ rfl rfl rfl rfl <| wkl H 2 rfl rfl rfl rfl <| wk _ rfl rfl rfl rfl <| wkl H 2 rfl rfl rfl rfl <| wk _ rfl rfl rfl rfl <| wkl H 2 rfl rfl rfl rfl <| wk _ rfl rfl rfl rfl ?_
 have Hh34919 := H
 refine Wsk 0 H hi3 rfl ?_
 intro S H
 refine ⟨(Xah (ld (H.get 2 rfl) rfl) (Xah (ld (H.get 2 rfl) rfl) (Xah (ld (H.get 2 rfl) rfl) Xa9))), ?_⟩
 refine wk _ rfl rfl rfl rfl ?_
 have Hh34920 := H
 refine Wsk 0 H hi3 rfl ?_
 intro S H
 refine ⟨(Xah (ld (H.get 2 rfl) rfl) (Xah (ld (H.get 2 rfl) rfl) (Xah (ld (H.get 2 rfl) rfl) Xa9))), ?_⟩
 refine WK.nil <| us 1 rfl <| Ws 0 H hi3 rfl ?_
 intro S H
 refine A_ <| C_ ?_
 have h := oi h; subst h
 exact ⟨.nils, .nils, .nils, .nils, (Xam _), (Xam _), (Xam _), (Xam _), kn, (hs H), rfl⟩
 refine G_ rfl hc56 <| M_ <| C_ ?_
 have h := oi h; subst h
 exact ⟨.nils, .nils, .nils, .nils, (Xam _), (Xam _), (Xam _), (Xam _), kn, (hs H), rfl⟩
 rintro σ S e ⟨v52, v53, v54, v55, hv52, hv53, hv54, hv55, hk, H, rfl⟩
 replace h := hOy51
 refine J_ hk <| C_ ?_
 have h := oi h; subst h
 exact ⟨v52, v53, v54, v55, hv52, hv53, hv54, hv55, kn, (hs H), rfl⟩
 rintro σ S e ⟨v46, v47, v48, v49, hv46, hv47, hv48, hv49, hk, H, rfl⟩
 replace h := hOy45
 refine J_ hk <| C_ ?_
 have h := oi h; subst h
 exact ⟨v46, v47, v48, v49, hv46, hv47, hv48, hv49, kn, (hs H), rfl⟩
 rintro σ S e ⟨v34, v35, v36, v37, hv34, hv35, hv36, hv37, hk, H, rfl⟩
 replace h := hOy33
 refine J_ hk <| C_ ?_
 have h := oi h; subst h
 exact ⟨v34, v35, v36, v37, hv34, hv35, hv36, hv37, kn, (hs H), rfl⟩
 rintro σ S e ⟨v28, v29, v30, v31, hv28, hv29, hv30, hv31, hk, H, rfl⟩
 replace h := hOy27
 refine J_ hk <| C_ ?_
 have h := oi h; subst h
 exact ⟨v28, v29, v30, v31, hv28, hv29, hv30, hv31, kn, (hs H), rfl⟩
 rintro σ S e ⟨v22, v23, v24, v25, hv22, hv23, hv24, hv25, hk, H, rfl⟩
 replace h := hOy21
 refine J_ hk <| C_ ?_
 have h := oi h; subst h
 exact ⟨v22, v23, v24, v25, hv22, hv23, hv24, hv25, kn, (hs H), rfl⟩
 rintro σ S e ⟨v12, v13, v14, v15, hv12, hv13, hv14, hv15, hk, H, rfl⟩
 replace h := hOy11
 refine J_ hk <| C_ ?_
 have h := oi h; subst h
 exact ⟨v12, v13, v14, v15, hv12, hv13, hv14, hv15, kn, (hs H), rfl⟩
 rintro σ S e ⟨v5, v6, v7, v8, hv5, hv6, hv7, hv8, hk, H, rfl⟩
 replace h := hOy4
 refine J_ hk <| V_ <| C_ <| B_ <| Wg H 0 rfl <| Ws 1 H hi2 rfl ?_
 intro S H
 refine A_ <| Q_ ?_
 have h := oi h; subst h
 refine Z_ (vs := [(.agg (XaO y4 v5 v6 v7 v8))]) (Xa0 rfl (H.get 1 rfl) rfl Xas) (L_ rfl rfl) ?_
 exact (by simp only [Xa7, List.map_cons, List.map_nil, Xal, Xax, Xap, Xaq, hv5.strip1, hv6.strip1, hv7.strip1, hv8.strip1, XbN, XbH, Xak])
def Xgh (k : Nat) (a0 : Sl Str) : Nat → Int → Option (Out Bool Int)
 | 0, _ => none
 | n + 1, x1 =>
  if decide (x1 < (Sl.len a0)) then
  (Sl.at? a0 x1).bind fun y2 =>
  if decide ((Str.len y2) > 400) then
  some (Out.ret false)
  else
  Xgh k a0 n (ad .i64 x1 1)
  else
  some (Out.brk x1)
def F35 (k : Nat) (a0 : Sl Str) : Option Bool :=
 (Xgh k a0 k 0).bind fun y1 =>
 match y1 with
 | .ret y1r => some y1r
 | .brk y1b =>
 some (decide ((Sl.len a0) ≤ 12))
theorem Xs0 {k : Nat} {a1 : Sl Str} {S0 : List SObj} {R : List Nat} {K : KX}  {o : Out Bool Int}
  (hret : ∀ r : Bool, o = .ret r → EK [(2, (.bool r))] S0 R [] [] [] (K .ret))
  (hbrk : ∀ y : Int, o = .brk y → EK [(0, (Xar eS a1))] S0 R [] [] [] (K (.exit 0))) :
  ∀ {n : Nat} {x2 : Int}, Xgh k a1 n x2 = some o → ∀ {σ : Nat → PV} {S : List SObj}, Xa2 [(0, (Xar eS a1)), (3, (.int .i64 x2))] σ → Hp S0 R S [] [] [] → WC env ⟨19, S0.length⟩ (.loop Xrn) σ S false K := by
 intro n
 induction n with
 | zero => intro _ h; cases h
 | succ n ih =>
  intro x2 h σ S  hk H
  rw [Xgh] at h
  refine b_ <| X_ hk <| I_ <| B_ <| us 2 rfl <| Wl rfl <| us 1 rfl <| A_ ?_
  rcases Xa1 h with ⟨hc3, h⟩ | ⟨hc3, h⟩
  refine F_ rfl hc3 <| M_ <| C_ <| I_ <| R_ <| B_ <| us 2 rfl ?_
  obtain ⟨y4, hy4, h⟩ := Xaf h
  refine Wx hy4 rfl rfl <| us 3 rfl <| A_ ?_
  rcases Xa1 h with ⟨hc5, h⟩ | ⟨hc5, h⟩
  refine F_ rfl hc5 <| B_ <| us 1 rfl <| A_ <| Q_ <| P_ <| H_ <| H_ ?_
  cases oi h
  exact hret _ rfl kn (hs H)
  refine G_ rfl hc5 <| M_ <| V_ <| C_ <| S_ <| us 3 rfl <| A_ <| C_ ?_
  exact ih h  kn (hs H)
  refine G_ rfl hc3 <| Y_ <| K_ <| K_ ?_
  cases oi h
  exact hbrk _ rfl  kn (hs H)
theorem s35 : ∀ k : Nat, ∀ {a0 : Sl Str} {r : Bool}, F35 k a0 = some r → Q 35 [(Xar eS a0)] (.bool r) := by
 intro k a0 r h
 unfold F35 at h
 refine Qg (pf := Xv1) rfl cq rfl fun H => ?_
 refine B_ <| us 1 rfl <| A_ <| I_ <| B_ <| us 1 rfl <| A_ ?_
 obtain ⟨y1, hy1, hOy1⟩ := Xaf h
 refine R_ ?_
 refine Xs0 ?_ ?_ hy1  kn (hs H)
 intro y1r he σ S  hk H; subst he; replace h := hOy1; dsimp only at h
 refine J_ hk <| P_ <| H_ ?_
 have h := oi h; subst h
 exact Kr (.bool y1r) rfl rfl
 intro y1b he σ S  hk H; subst he; replace h := hOy1; dsimp only at h
 refine J_ hk <| U_ <| C_ <| B_ <| us 1 rfl <| Wl rfl <| us 2 rfl <| A_ <| Q_ ?_
 have h := oi h; subst h
 exact Kr (.bool (decide ((Sl.len a0) ≤ 12))) rfl rfl
def Xgi (k : Nat) (a0 : Sl Xat) (a1 : Bool) : Nat → Int → Option (Out Bool Int)
 | 0, _ => none
 | n + 1, x2 =>
  if decide (x2 < (Sl.len a0)) then
  (Sl.at? a0 x2).bind fun y3 =>
  (if decide (y3.Kind < 1) then
  some true
  else
  (Sl.at? a0 x2).bind fun y4 =>
  some (decide (y4.Kind > 3))).bind fun y5 =>
  (if y5 then
  some true
  else
  (if !a1 then
  (Sl.at? a0 x2).bind fun y6 =>
  some (y6.Kind != 1)
  else
  some false).bind fun y7 =>
  some y7).bind fun y8 =>
  (if y8 then
  some true
  else
  (Sl.at? a0 x2).bind fun y10 =>
  some (decide ((Str.len y10.Attr) > 400))).bind fun y11 =>
  (if y11 then
  some true
  else
  (Sl.at? a0 x2).bind fun y12 =>
  (F35 k y12.Values).bind fun y13 =>
  some (!y13)).bind fun y14 =>
  if y14 then
  some (Out.ret false)
  else
  Xgi k a0 a1 n (ad .i64 x2 1)
  else
  some (Out.brk x2)
def F36 (k : Nat) (a0 : Sl Xat) (a1 : Bool) : Option Bool :=
 (Xgi k a0 a1 k 0).bind fun y2 =>
 match y2 with
 | .ret y2r => some y2r
 | .brk y2b =>
 some (decide ((Sl.len a0) ≤ 12))
theorem Xs1 {k : Nat} {a1 : Sl Xat} {a2 : Bool} {S0 : List SObj} {R : List Nat} {K : KX}  {o : Out Bool Int}
  (hret : ∀ r : Bool, o = .ret r → EK [(4, (.bool r))] S0 R [] [] [] (K .ret))
  (hbrk : ∀ y : Int, o = .brk y → EK [(0, (Xar Xao a1))] S0 R [] [] [] (K (.exit 0))) :
  ∀ {n : Nat} {x3 : Int}, Xgi k a1 a2 n x3 = some o → ∀ {σ : Nat → PV} {S : List SObj}, Xa2 [(0, (Xar Xao a1)), (1, (.bool a2)), (5, (.int .i64 x3))] σ → Hp S0 R S [] [] [] → WC env ⟨59, S0.length⟩ (.loop Xrq) σ S false K := by
 intro n
 induction n with
 | zero => intro _ h; cases h
 | succ n ih =>
  intro x3 h σ S  hk H
  rw [Xgi] at h
  refine b_ <| X_ hk <| I_ <| B_ <| us 2 rfl <| Wl rfl <| us 1 rfl <| A_ ?_
  rcases Xa1 h with ⟨hc4, h⟩ | ⟨hc4, h⟩
  refine F_ rfl hc4 <| M_ <| C_ <| I_ <| R_ <| B_ <| us 2 rfl ?_
  obtain ⟨y5, hy5, h⟩ := Xaf h
  refine Wx hy5 (Xaz _) rfl <| us 2 rfl <| w (.bool (decide (y5.Kind < 1))) rfl rfl <| w (.bool (decide (y5.Kind < 1))) rfl rfl ?_
  obtain ⟨y6, hy6, hOy6⟩ := Xaf h
  refine O_ 7 (SJ [(0, (Xar Xao a1)), (1, (.bool a2)), (5, (.int .i64 x3)), (25, (.bool y6))] S0 R [] [] [] false) ?_ ?_
  replace h := hy6
  revert H
  cases hc7 : (decide (y5.Kind < 1))
  intro H
  replace h := Xc5 h hc7
  refine us 2 rfl <| N_ rfl rfl ?_
  obtain ⟨y8, hy8, h⟩ := Xaf h
  refine Wx hy8 (Xaz _) rfl <| us 4 rfl <| A_ ?_
  cases oi h
  exact kh H
  intro H
  replace h := Xc4 h hc7
  refine us 7 rfl <| A_ ?_
  cases oi h
  exact kh H
  rintro σ S e ⟨hk, H, rfl⟩
  replace h := hOy6
  refine E_ hk <| us 1 rfl ?_
  obtain ⟨y9, hy9, hOy9⟩ := Xaf h
  refine O_ 11 (SJ [(0, (Xar Xao a1)), (1, (.bool a2)), (5, (.int .i64 x3)), (37, (.bool y9))] S0 R [] [] [] false) ?_ ?_
  replace h := hy9
  revert H
  cases hc10 : y6
  intro H
  replace h := Xc5 h hc10
  refine us 1 rfl <| N_ rfl rfl <| w (.bool (!a2)) rfl rfl <| N_ rfl rfl <| w (.bool (!a2)) rfl rfl ?_
  obtain ⟨y11, hy11, hOy11⟩ := Xaf h
  refine O_ 7 (SJ [(0, (Xar Xao a1)), (1, (.bool a2)), (5, (.int .i64 x3)), (26, (.bool false)), (36, (.bool y11))] S0 R [] [] [] false) ?_ ?_
  replace h := hy11
  revert H
  cases hc12 : (!a2)
  intro H
  replace h := Xc5 h hc12
  refine us 7 rfl <| A_ ?_
  cases oi h
  exact kh H
  intro H
  replace h := Xc4 h hc12
  refine us 2 rfl <| N_ rfl rfl ?_
  obtain ⟨y13, hy13, h⟩ := Xaf h
  refine Wx hy13 (Xaz _) rfl <| us 4 rfl <| A_ ?_
  cases oi h
  exact kh H
  rintro σ S e ⟨hk, H, rfl⟩
  replace h := hOy11
  refine E_ hk <| us 1 rfl <| A_ ?_
  cases oi h
  exact kh H
  intro H
  replace h := Xc4 h hc10
  refine us 3 rfl <| l_ rfl rfl <| l_ rfl rfl <| l_ rfl rfl <| l_ rfl rfl <| l_ rfl rfl <| l_ rfl rfl <| us 2 rfl <| A_ ?_
  cases oi h
  exact kh H
  rintro σ S e ⟨hk, H, rfl⟩
  replace h := hOy9
  refine E_ hk <| us 1 rfl ?_
  obtain ⟨y14, hy14, hOy14⟩ := Xaf h
  refine O_ 8 (SJ [(0, (Xar Xao a1)), (1, (.bool a2)), (5, (.int .i64 x3)), (46, (.bool y14))] S0 R [] [] [] false) ?_ ?_
  replace h := hy14
  revert H
  cases hc15 : y9
  intro H
  replace h := Xc5 h hc15
  refine us 2 rfl <| N_ rfl rfl ?_
  obtain ⟨y16, hy16, h⟩ := Xaf h
  refine Wx hy16 (Xaz _) rfl <| us 5 rfl <| A_ ?_
  cases oi h
  exact kh H
  intro H
  replace h := Xc4 h hc15
  refine us 8 rfl <| A_ ?_
  cases oi h
  exact kh H
  rintro σ S e ⟨hk, H, rfl⟩
  replace h := hOy14
  refine E_ hk <| us 1 rfl ?_
  obtain ⟨y17, hy17, hOy17⟩ := Xaf h
  refine O_ 8 (SJ [(0, (Xar Xao a1)), (1, (.bool a2)), (5, (.int .i64 x3)), (55, (.bool y17))] S0 R [] [] [] false) ?_ ?_
  replace h := hy17
  revert H
  cases hc18 : y14
  intro H
  replace h := Xc5 h hc18
  refine us 2 rfl <| N_ rfl rfl ?_
  obtain ⟨y19, hy19, h⟩ := Xaf h
  refine Wx hy19 (Xaz _) rfl <| us 2 rfl <| N_ rfl rfl ?_
  obtain ⟨y20, hy20, h⟩ := Xaf h
  refine Cl (.bool y20) [(Xar eS y19.Values)] rfl (fe rfl rfl) (sv (s35 _ hy20)) <| us 2 rfl <| A_ ?_
  cases oi h
  exact kh H
  intro H
  replace h := Xc4 h hc18
  refine us 8 rfl <| A_ ?_
  cases oi h
  exact kh H
  rintro σ S e ⟨hk, H, rfl⟩
  replace h := hOy17
  refine E_ hk <| A_ ?_
  rcases Xa1 h with ⟨hc21, h⟩ | ⟨hc21, h⟩
  refine F_ rfl hc21 <| B_ <| us 1 rfl <| A_ <| Q_ <| P_ <| H_ <| H_ ?_
  cases oi h
  exact hret _ rfl kn (hs H)
  refine G_ rfl hc21 <| M_ <| V_ <| C_ <| S_ <| us 3 rfl <| A_ <| C_ ?_
  exact ih h  kn (hs H)
  refine G_ rfl hc4 <| Y_ <| K_ <| K_ ?_
  cases oi h
  exact hbrk _ rfl  kn (hs H)
theorem s36 : ∀ k : Nat, ∀ {a0 : Sl Xat} {a1 : Bool} {r : Bool}, F36 k a0 a1 = some r → Q 36 [(Xar Xao a0), (.bool a1)] (.bool r) := by
 intro k a0 a1 r h
 unfold F36 at h
 refine Qg (pf := Xv2) rfl cq rfl fun H => ?_
 refine B_ <| us 1 rfl <| A_ <| I_ <| B_ <| us 1 rfl <| A_ ?_
 obtain ⟨y2, hy2, hOy2⟩ := Xaf h
 refine R_ ?_
 refine Xs1 ?_ ?_ hy2  kn (hs H)
 intro y2r he σ S  hk H; subst he; replace h := hOy2; dsimp only at h
 refine J_ hk <| P_ <| H_ ?_
 have h := oi h; subst h
 exact Kr (.bool y2r) rfl rfl
 intro y2b he σ S  hk H; subst he; replace h := hOy2; dsimp only at h
 refine J_ hk <| U_ <| C_ <| B_ <| us 1 rfl <| Wl rfl <| us 2 rfl <| A_ <| Q_ ?_
 have h := oi h; subst h
 exact Kr (.bool (decide ((Sl.len a0) ≤ 12))) rfl rfl
def Xfg (rc0 : Xae → Option Int) (k : Nat) (a1 : Xae) : Nat → Int → Int → Option (Int × Int)
 | 0, _, _ => none
 | n + 1, x2, x3 =>
  if (decide (x3 < (Sl.len a1.Kids))) && (decide (x2 ≤ 20)) then
  (Sl.at? a1.Kids x3).bind fun y4 =>
  (rc0 y4).bind fun y5 =>
  Xfg rc0 k a1 n (ad .i64 x2 y5) (ad .i64 x3 1)
  else
  some (x2, x3)
def F69 : Nat → Xae → Option Int
 | 0, _ => none
 | k + 1, a0 =>
  (if (decide (a0.Kind ≥ 1)) && (decide (a0.Kind ≤ 3)) then
  (Xfg (F69 k) k a0 k 1 0).bind fun y1 =>
  some y1.1
  else
  some 1).bind fun y2 =>
  some (Xkb y2 21)
theorem Xs2 {rc0 : Xae → Option Int} (hrc0 : ∀ {a0 : Xae} {r : Int}, rc0 a0 = some r → Q 69 [(.agg (Xag a0))] (.int .i64 r)) {k : Nat} {a2 : Xae} {S0 : List SObj} {R : List Nat} {K : KX} {i1 : Nat} (hi1 : S0.length ≤ i1)  {o : (Int × Int)}
  (hbrk : EK [(3, (.int .i64 o.1))] S0 R [(i1, .cells (Xag a2))] [] [] (K (.exit 0))) :
  ∀ {n : Nat} {x3 : Int} {x4 : Int}, Xfg rc0 k a2 n x3 x4 = some o → ∀ {σ : Nat → PV} {S : List SObj}, Xa2 [(1, (.ptr i1 0)), (3, (.int .i64 x3)), (4, (.int .i64 x4))] σ → Hp S0 R S [(i1, .cells (Xag a2))] [] [] → WC env ⟨34, S0.length⟩ (.loop Xrt) σ S false K := by
 intro n
 induction n with
 | zero => intro _ _ h; cases h
 | succ n ih =>
  intro x3 x4 h σ S  hk H
  rw [Xfg] at h
  refine b_ <| X_ hk <| I_ <| B_ <| us 2 rfl <| Wg H 0 rfl <| Wl rfl <| w (.bool (decide (x4 < (Sl.len a2.Kids)))) rfl rfl <| w (.bool (decide (x4 < (Sl.len a2.Kids)))) rfl rfl ?_
  refine O_ 3 (SH H [(1, (.ptr i1 0)), (3, (.int .i64 x3)), (4, (.int .i64 x4)), (21, (.bool ((decide (x4 < (Sl.len a2.Kids))) && (decide (x3 ≤ 20)))))]) ?_ ?_
  revert H
  cases hc5 : (decide (x4 < (Sl.len a2.Kids)))
  intro H
  refine us 3 rfl <| A_ ?_
  exact kf H
  intro H
  refine us 3 rfl <| A_ ?_
  exact kf H
  rintro σ S e ⟨hk, H, rfl⟩
  refine E_ hk <| A_ ?_
  rcases Xa1 h with ⟨hc6, h⟩ | ⟨hc6, h⟩
  refine F_ rfl hc6 <| M_ <| C_ <| I_ <| R_ <| S_ <| us 2 rfl <| Wg H 0 rfl <| us 1 rfl ?_
  obtain ⟨y7, hy7, h⟩ := Xaf h
  refine Wx hy7 (XaA _) rfl <| us 1 rfl ?_
  obtain ⟨y8, hy8, h⟩ := Xaf h
  refine Cl (.int .i64 y8) [(.agg (Xag y7))] rfl rfl (sv (hrc0 hy8)) <| us 2 rfl <| A_ <| V_ <| C_ <| S_ <| us 3 rfl <| A_ <| C_ ?_
  exact ih h  kn (hs H)
  refine G_ rfl hc6 <| Y_ <| K_ <| K_ ?_
  cases oi h
  exact hbrk  kn (hs H)
theorem s69 : ∀ k : Nat, ∀ {a0 : Xae} {r : Int}, F69 k a0 = some r → Q 69 [(.agg (Xag a0))] (.int .i64 r) := by
 intro k
 induction k with
 | zero => intro _ r h; cases h
 | succ k ih =>
  intro a0 r h
  rw [F69] at h
  refine Qg (pf := Xv3) rfl cq rfl fun H => ?_
  refine B_ <| Wb H rfl ?_
  intro i1 S hi1 H
  refine us 1 rfl <| A_ <| B_ <| us 1 rfl <| A_ <| I_ <| B_ <| us 1 rfl <| Wg H 0 rfl <| w (.bool (decide (a0.Kind ≥ 1))) rfl rfl <| w (.bool (decide (a0.Kind ≥ 1))) rfl rfl ?_
  refine O_ 4 (SH H [(1, (.ptr i1 0)), (3, (.int .i64 1)), (12, (.bool ((decide (a0.Kind ≥ 1)) && (decide (a0.Kind ≤ 3)))))]) ?_ ?_
  revert H
  cases hc2 : (decide (a0.Kind ≥ 1))
  intro H
  refine us 4 rfl <| A_ ?_
  exact kf H
  intro H
  refine us 1 rfl <| N_ rfl rfl <| Wg H 0 rfl <| us 2 rfl <| A_ ?_
  exact kf H
  rintro σ S e ⟨hk, H, rfl⟩
  refine E_ hk <| A_ ?_
  obtain ⟨y3, hy3, hOy3⟩ := Xaf h
  refine a_ (SJ [(3, (.int .i64 y3))] [] [] [(i1, .cells (Xag a0))] [] [] false) ?_ ?_
  replace h := hy3
  rcases Xa1 h with ⟨hc5, h⟩ | ⟨hc5, h⟩
  refine F_ rfl hc5 <| B_ <| us 1 rfl <| A_ ?_
  obtain ⟨y6, hy6, hOy6⟩ := Xaf h
  refine R_ ?_
  refine Xs2 ih hi1 ?_ hy6  kn (hs H)
  intro σ S  hk H; replace h := hOy6
  refine J_ hk <| U_ <| C_ ?_
  cases oi h
  exact kh H
  refine G_ rfl hc5 <| M_ <| C_ ?_
  cases oi h
  exact kh H
  rintro σ S e ⟨hk, H, rfl⟩
  replace h := hOy3
  refine J_ hk <| C_ <| B_ <| us 3 rfl <| A_ <| Q_ ?_
  cases oi h
  exact Kr (.int .i64 (Xkb y3 21)) rfl rfl
def Xfh (k : Nat) (a0 : Str) : Nat → Int → Option (Out Bool Int)
 | 0, _ => none
 | n + 1, x1 =>
  if decide (x1 < (Str.len a0)) then
  (Str.at? a0 x1).bind fun c2 =>
  if (((decide (c2 < 97)) || (decide (c2 > 122))) && ((decide (c2 < 48)) || (decide (c2 > 57)))) && (c2 != 45) then
  some (Out.ret false)
  else
  Xfh k a0 n (ad .i64 x1 1)
  else
  some (Out.brk x1)
def F91 (k : Nat) (a0 : Str) : Option Bool :=
 (if (decide ((Str.len a0) < 1)) || (decide ((Str.len a0) > 16)) then
 some true
 else
 (Str.at? a0 0).bind fun c7 =>
 some (decide (c7 < 97))).bind fun y6 =>
 (if y6 then
 some true
 else
 (Str.at? a0 0).bind fun c1 =>
 some (decide (c1 > 122))).bind fun y2 =>
 if y2 then
 some false
 else
 (Xfh k a0 k 0).bind fun y3 =>
 match y3 with
 | .ret y3r => some y3r
 | .brk y3b =>
 some true
theorem Xs3 {k : Nat} {a1 : Str} {S0 : List SObj} {R : List Nat} {K : KX}  {o : Out Bool Int}
  (hret : ∀ r : Bool, o = .ret r → EK [(2, (.bool r))] S0 R [] [] [] (K .ret))
  (hbrk : ∀ y : Int, o = .brk y → EK [] S0 R [] [] [] (K (.exit 0))) :
  ∀ {n : Nat} {x2 : Int}, Xfh k a1 n x2 = some o → ∀ {σ : Nat → PV} {S : List SObj}, Xa2 [(0, (.str a1)), (3, (.int .i64 x2))] σ → Hp S0 R S [] [] [] → WC env ⟨50, S0.length⟩ (.loop Xrw) σ S false K := by
 intro n
 induction n with
 | zero => intro _ h; cases h
 | succ n ih =>
  intro x2 h σ S  hk H
  rw [Xfh] at h
  refine b_ <| X_ hk <| I_ <| B_ <| us 4 rfl <| A_ ?_
  rcases Xa1 h with ⟨hc3, h⟩ | ⟨hc3, h⟩
  refine F_ rfl hc3 <| M_ <| C_ <| I_ <| R_ <| B_ <| us 2 rfl ?_
  obtain ⟨c4, hc4, h⟩ := Xaf h
  refine w (.int .u8 c4) rfl (nz rfl (XaU rfl rfl rfl hc4)) <| us 1 rfl <| A_ <| B_ <| us 1 rfl <| w (.bool (decide (c4 < 97))) rfl rfl <| w (.bool (decide (c4 < 97))) rfl rfl ?_
  refine O_ 3 (SH H [(0, (.str a1)), (3, (.int .i64 x2)), (4, (.int .u8 c4)), (37, (.bool ((decide (c4 < 97)) || (decide (c4 > 122)))))]) ?_ ?_
  revert H
  cases hc5 : (decide (c4 < 97))
  intro H
  refine us 3 rfl <| A_ ?_
  exact kf H
  intro H
  refine us 3 rfl <| A_ ?_
  exact kf H
  rintro σ S e ⟨hk, H, rfl⟩
  refine E_ hk <| w (.bool ((decide (c4 < 97)) || (decide (c4 > 122)))) rfl rfl ?_
  refine O_ 7 (SJ [(0, (.str a1)), (3, (.int .i64 x2)), (4, (.int .u8 c4)), (45, (.bool (((decide (c4 < 97)) || (decide (c4 > 122))) && ((decide (c4 < 48)) || (decide (c4 > 57))))))] S0 R [] [] [] false) ?_ ?_
  revert H
  cases hc6 : ((decide (c4 < 97)) || (decide (c4 > 122)))
  intro H
  refine us 3 rfl <| l_ rfl rfl <| l_ rfl rfl <| us 2 rfl <| A_ ?_
  exact kf H
  intro H
  refine us 1 rfl <| N_ rfl rfl <| w (.bool (decide (c4 < 48))) rfl rfl <| N_ rfl rfl <| w (.bool (decide (c4 < 48))) rfl rfl ?_
  refine O_ 3 (SH H [(0, (.str a1)), (3, (.int .i64 x2)), (4, (.int .u8 c4)), (38, (.bool true)), (44, (.bool ((decide (c4 < 48)) || (decide (c4 > 57)))))]) ?_ ?_
  revert H
  cases hc7 : (decide (c4 < 48))
  intro H
  refine us 3 rfl <| A_ ?_
  exact kf H
  intro H
  refine us 3 rfl <| A_ ?_
  exact kf H
  rintro σ S e ⟨hk, H, rfl⟩
  refine E_ hk <| us 1 rfl <| A_ ?_
  exact kf H
  rintro σ S e ⟨hk, H, rfl⟩
  refine E_ hk <| w (.bool (((decide (c4 < 97)) || (decide (c4 > 122))) && ((decide (c4 < 48)) || (decide (c4 > 57))))) rfl rfl ?_
  refine O_ 3 (SH H [(0, (.str a1)), (3, (.int .i64 x2)), (49, (.bool ((((decide (c4 < 97)) || (decide (c4 > 122))) && ((decide (c4 < 48)) || (decide (c4 > 57)))) && (c4 != 45))))]) ?_ ?_
  revert H
  cases hc8 : (((decide (c4 < 97)) || (decide (c4 > 122))) && ((decide (c4 < 48)) || (decide (c4 > 57))))
  intro H
  refine us 3 rfl <| A_ ?_
  exact kf H
  intro H
  refine us 3 rfl <| A_ ?_
  exact kf H
  rintro σ S e ⟨hk, H, rfl⟩
  refine E_ hk <| A_ ?_
  rcases Xa1 h with ⟨hc9, h⟩ | ⟨hc9, h⟩
  refine F_ rfl hc9 <| B_ <| us 1 rfl <| A_ <| Q_ <| P_ <| H_ <| H_ ?_
  cases oi h
  exact hret _ rfl kn (hs H)
  refine G_ rfl hc9 <| M_ <| V_ <| C_ <| S_ <| us 3 rfl <| A_ <| C_ ?_
  exact ih h  kn (hs H)
  refine G_ rfl hc3 <| Y_ <| K_ <| K_ ?_
  cases oi h
  exact hbrk _ rfl  m_ (hs H)
theorem s91 : ∀ k : Nat, ∀ {a0 : Str} {r : Bool}, F91 k a0 = some r → Q 91 [(.str a0)] (.bool r) := by
 intro k a0 r h
 unfold F91 at h
 refine Qg (pf := Xv4) rfl rfl rfl fun H => ?_
 refine B_ <| us 1 rfl <| A_ <| I_ <| B_ <| us 2 rfl <| w (.bool (decide ((Str.len a0) < 1))) rfl rfl <| w (.bool (decide ((Str.len a0) < 1))) rfl rfl ?_
 refine O_ 4 (SH H [(0, (.str a0)), (12, (.bool ((decide ((Str.len a0) < 1)) || (decide ((Str.len a0) > 16)))))]) ?_ ?_
 revert H
 cases hc1 : (decide ((Str.len a0) < 1))
 intro H
 refine us 4 rfl <| A_ ?_
 exact kf H
 intro H
 refine us 4 rfl <| A_ ?_
 exact kf H
 rintro σ S e ⟨hk, H, rfl⟩
 generalize ((decide ((Str.len a0) < 1)) || (decide ((Str.len a0) > 16))) = p0 at hk h
 refine E_ hk <| w (.bool p0) rfl rfl ?_
 obtain ⟨y6, hy6, hOy6⟩ := Xaf h
 refine O_ 4 (SJ [(0, (.str a0)), (17, (.bool y6))] [] [] [] [] [] false) ?_ ?_
 replace h := hy6
 revert H
 cases hc8 : p0
 intro H
 replace h := Xc5 h hc8
 refine us 1 rfl <| N_ rfl rfl ?_
 obtain ⟨c7, hc7, h⟩ := Xaf h
 refine w (.int .u8 c7) rfl (nz rfl (XaU rfl rfl rfl hc7)) <| us 2 rfl <| A_ ?_
 have h := oi h; subst h
 exact kh H
 intro H
 replace h := Xc4 h hc8
 refine us 4 rfl <| A_ ?_
 have h := oi h; subst h
 exact kh H
 rintro σ S e ⟨hk, H, rfl⟩
 replace h := hOy6
 refine E_ hk <| us 1 rfl ?_
 obtain ⟨y2, hy2, hOy2⟩ := Xaf h
 refine O_ 4 (SJ [(0, (.str a0)), (22, (.bool y2))] [] [] [] [] [] false) ?_ ?_
 replace h := hy2
 revert H
 cases hc3 : y6
 intro H
 replace h := Xc5 h hc3
 refine us 1 rfl <| N_ rfl rfl ?_
 obtain ⟨c4, hc4, h⟩ := Xaf h
 refine w (.int .u8 c4) rfl (nz rfl (XaU rfl rfl rfl hc4)) <| us 2 rfl <| A_ ?_
 have h := oi h; subst h
 exact kh H
 intro H
 replace h := Xc4 h hc3
 refine us 4 rfl <| A_ ?_
 have h := oi h; subst h
 exact kh H
 rintro σ S e ⟨hk, H, rfl⟩
 replace h := hOy2
 refine E_ hk <| A_ ?_
 rcases Xa1 h with ⟨hc5, h⟩ | ⟨hc5, h⟩
 refine F_ rfl hc5 <| B_ <| us 1 rfl <| A_ <| Q_ <| H_ ?_
 have h := oi h; subst h
 exact Kr (.bool false) rfl rfl
 refine G_ rfl hc5 <| M_ <| C_ <| I_ <| B_ <| us 1 rfl <| A_ ?_
 obtain ⟨y9, hy9, hOy9⟩ := Xaf h
 refine R_ ?_
 refine Xs3 ?_ ?_ hy9  kn (hs H)
 intro y9r he σ S  hk H; subst he; replace h := hOy9; dsimp only at h
 refine J_ hk <| P_ <| H_ ?_
 have h := oi h; subst h
 exact Kr (.bool y9r) rfl rfl
 intro y9b he σ S  hk H; subst he; replace h := hOy9; dsimp only at h
 refine J_ hk <| U_ <| C_ <| B_ <| us 1 rfl <| A_ <| Q_ ?_
 have h := oi h; subst h
 exact Kr (.bool true) rfl rfl
def Xfi (k : Nat) (a0 : Sl Str) : Nat → Bool → Int → Option (Out Bool (Bool × Int))
 | 0, _, _ => none
 | n + 1, x1, x2 =>
  if decide (x2 < (Sl.len a0)) then
  (Sl.at? a0 x2).bind fun y3 =>
  (if decide ((Str.len y3) > 60) then
  some true
  else
  (Sl.at? a0 x2).bind fun y4 =>
  some (((y4 == []) && (decide (x2 > 0))) && (decide (x2 < (sb .i64 (Sl.len a0) 1))))).bind fun y5 =>
  if y5 then
  some (Out.ret false)
  else
  (if x1 then
  some true
  else
  (Sl.at? a0 x2).bind fun y6 =>
  some (!(y6 == []))).bind fun y8 =>
  Xfi k a0 n y8 (ad .i64 x2 1)
  else
  some (Out.brk (x1, x2))
def F92 (k : Nat) (a0 : Sl Str) : Option Bool :=
 if (decide ((Sl.len a0) < 2)) || (decide ((Sl.len a0) > 20)) then
 some false
 else
 (Xfi k a0 k false 0).bind fun y1 =>
 match y1 with
 | .ret y1r => some y1r
 | .brk y1b =>
 some y1b.1
theorem Xs4 {k : Nat} {a1 : Sl Str} {S0 : List SObj} {R : List Nat} {K : KX}  {o : Out Bool (Bool × Int)}
  (hret : ∀ r : Bool, o = .ret r → EK [(2, (.bool r))] S0 R [] [] [] (K .ret))
  (hbrk : ∀ y : Bool × Int, o = .brk y → EK [(3, (.bool y.1))] S0 R [] [] [] (K (.exit 0))) :
  ∀ {n : Nat} {x2 : Bool} {x3 : Int}, Xfi k a1 n x2 x3 = some o → ∀ {σ : Nat → PV} {S : List SObj}, Xa2 [(0, (Xar eS a1)), (3, (.bool x2)), (4, (.int .i64 x3))] σ → Hp S0 R S [] [] [] → WC env ⟨52, S0.length⟩ (.loop Xrz) σ S false K := by
 intro n
 induction n with
 | zero => intro _ _ h; cases h
 | succ n ih =>
  intro x2 x3 h σ S  hk H
  rw [Xfi] at h
  refine b_ <| X_ hk <| I_ <| B_ <| us 2 rfl <| Wl rfl <| us 1 rfl <| A_ ?_
  rcases Xa1 h with ⟨hc4, h⟩ | ⟨hc4, h⟩
  refine F_ rfl hc4 <| M_ <| C_ <| I_ <| R_ <| I_ <| B_ <| us 2 rfl ?_
  obtain ⟨y5, hy5, h⟩ := Xaf h
  refine Wx hy5 rfl rfl <| us 2 rfl <| w (.bool (decide ((Str.len y5) > 60))) rfl rfl <| w (.bool (decide ((Str.len y5) > 60))) rfl rfl ?_
  obtain ⟨y6, hy6, hOy6⟩ := Xaf h
  refine O_ 17 (SJ [(0, (Xar eS a1)), (3, (.bool x2)), (4, (.int .i64 x3)), (42, (.bool y6))] S0 R [] [] [] false) ?_ ?_
  replace h := hy6
  revert H
  cases hc7 : (decide ((Str.len y5) > 60))
  intro H
  replace h := Xc5 h hc7
  refine us 2 rfl <| N_ rfl rfl ?_
  obtain ⟨y8, hy8, h⟩ := Xaf h
  refine Wx hy8 rfl rfl <| us 1 rfl <| N_ rfl rfl <| w (.bool (y8 == [])) rfl rfl <| N_ rfl rfl <| w (.bool (y8 == [])) rfl rfl ?_
  refine O_ 3 (SH H [(0, (Xar eS a1)), (3, (.bool x2)), (4, (.int .i64 x3)), (25, (.bool false)), (34, (.bool ((y8 == []) && (decide (x3 > 0)))))]) ?_ ?_
  revert H
  cases hc9 : (y8 == [])
  intro H
  refine us 3 rfl <| A_ ?_
  exact kf H
  intro H
  refine us 3 rfl <| A_ ?_
  exact kf H
  rintro σ S e ⟨hk, H, rfl⟩
  refine E_ hk <| N_ rfl rfl <| w (.bool ((y8 == []) && (decide (x3 > 0)))) rfl rfl ?_
  refine O_ 6 (SH H [(0, (Xar eS a1)), (3, (.bool x2)), (4, (.int .i64 x3)), (25, (.bool false)), (41, (.bool (((y8 == []) && (decide (x3 > 0))) && (decide (x3 < (sb .i64 (Sl.len a1) 1))))))]) ?_ ?_
  revert H
  cases hc10 : ((y8 == []) && (decide (x3 > 0)))
  intro H
  refine us 6 rfl <| A_ ?_
  exact kf H
  intro H
  refine us 2 rfl <| N_ rfl rfl <| Wl rfl <| us 3 rfl <| A_ ?_
  exact kf H
  rintro σ S e ⟨hk, H, rfl⟩
  refine E_ hk <| us 1 rfl <| A_ ?_
  cases oi h
  exact kh H
  intro H
  replace h := Xc4 h hc7
  refine us 6 rfl <| l_ rfl rfl <| l_ rfl rfl <| us 2 rfl <| l_ rfl rfl <| l_ rfl rfl <| l_ rfl rfl <| l_ rfl rfl <| l_ rfl rfl <| us 2 rfl <| A_ ?_
  cases oi h
  exact kh H
  rintro σ S e ⟨hk, H, rfl⟩
  replace h := hOy6
  refine E_ hk <| A_ ?_
  rcases Xa1 h with ⟨hc11, h⟩ | ⟨hc11, h⟩
  refine F_ rfl hc11 <| B_ <| us 1 rfl <| A_ <| Q_ <| H_ <| P_ <| H_ <| H_ ?_
  cases oi h
  exact hret _ rfl kn (hs H)
  refine G_ rfl hc11 <| M_ <| C_ <| S_ <| us 2 rfl ?_
  obtain ⟨y12, hy12, hOy12⟩ := Xaf h
  refine O_ 6 (SJ [(0, (Xar eS a1)), (4, (.int .i64 x3)), (50, (.bool y12))] S0 R [] [] [] false) ?_ ?_
  replace h := hy12
  revert H
  cases hc13 : x2
  intro H
  replace h := Xc5 h hc13
  refine us 2 rfl <| N_ rfl rfl ?_
  obtain ⟨y14, hy14, h⟩ := Xaf h
  refine Wx hy14 rfl rfl <| us 3 rfl <| A_ ?_
  cases oi h
  exact kh H
  intro H
  replace h := Xc4 h hc13
  refine us 6 rfl <| A_ ?_
  cases oi h
  exact kh H
  rintro σ S e ⟨hk, H, rfl⟩
  replace h := hOy12
  refine E_ hk <| us 1 rfl <| A_ <| V_ <| C_ <| S_ <| us 3 rfl <| A_ <| C_ ?_
  exact ih h  kn (hs H)
  refine G_ rfl hc4 <| Y_ <| K_ <| K_ ?_
  cases oi h
  exact hbrk _ rfl  kn (hs H)
theorem s92 : ∀ k : Nat, ∀ {a0 : Sl Str} {r : Bool}, F92 k a0 = some r → Q 92 [(Xar eS a0)] (.bool r) := by
 intro k a0 r h
 unfold F92 at h
 refine Qg (pf := Xv5) rfl cq rfl fun H => ?_
 refine B_ <| us 1 rfl <| A_ <| I_ <| B_ <| us 1 rfl <| Wl rfl <| w (.bool (decide ((Sl.len a0) < 2))) rfl rfl <| w (.bool (decide ((Sl.len a0) < 2))) rfl rfl ?_
 refine O_ 4 (SH H [(0, (Xar eS a0)), (12, (.bool ((decide ((Sl.len a0) < 2)) || (decide ((Sl.len a0) > 20)))))]) ?_ ?_
 revert H
 cases hc1 : (decide ((Sl.len a0) < 2))
 intro H
 refine us 1 rfl <| N_ rfl rfl <| Wl rfl <| us 2 rfl <| A_ ?_
 exact kf H
 intro H
 refine us 4 rfl <| A_ ?_
 exact kf H
 rintro σ S e ⟨hk, H, rfl⟩
 refine E_ hk <| A_ ?_
 rcases Xa1 h with ⟨hc2, h⟩ | ⟨hc2, h⟩
 refine F_ rfl hc2 <| B_ <| us 1 rfl <| A_ <| Q_ <| H_ ?_
 have h := oi h; subst h
 exact Kr (.bool false) rfl rfl
 refine G_ rfl hc2 <| M_ <| C_ <| B_ <| us 1 rfl <| A_ <| I_ <| B_ <| us 1 rfl <| A_ ?_
 obtain ⟨y3, hy3, hOy3⟩ := Xaf h
 refine R_ ?_
 refine Xs4 ?_ ?_ hy3  kn (hs H)
 intro y3r he σ S  hk H; subst he; replace h := hOy3; dsimp only at h
 refine J_ hk <| P_ <| H_ ?_
 have h := oi h; subst h
 exact Kr (.bool y3r) rfl rfl
 intro y3b he σ S  hk H; subst he; replace h := hOy3; dsimp only at h
 refine J_ hk <| U_ <| C_ <| B_ <| us 2 rfl <| A_ <| Q_ ?_
 have h := oi h; subst h
 exact Kr (.bool y3b.1) rfl rfl
end Go.Proofs.YtbinlabnilidiaaGreatDoor.M
