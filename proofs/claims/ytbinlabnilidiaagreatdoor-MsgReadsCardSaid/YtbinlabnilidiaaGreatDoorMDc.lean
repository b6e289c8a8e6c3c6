/- Part of the proof: the runs of functions on the abstract machine. -/
import Derived.Test.YtbinlabnilidiaaGreatDoorPamM4
import Derived.Test.YtbinlabnilidiaaGreatDoorFns
import Derived.Test.YtbinlabnilidiaaGreatDoorMDe
namespace Go.Proofs.YtbinlabnilidiaaGreatDoor.M
open Go Go.Pam Go.RowKit Go.WideShapes
set_option maxRecDepth 8000
set_option linter.unusedVariables false
set_option linter.unusedSimpArgs false
def XfX (k : Nat) (a0 : Sl Str) (a1 : Sl Str) (a2 : Int) : Nat → Int → Option (Out Bool Int)
 | 0, _ => none
 | n + 1, x3 =>
  if decide (x3 < a2) then
  (Sl.at? a0 x3).bind fun y4 =>
  (Sl.at? a1 x3).bind fun y5 =>
  if !(y4 == y5) then
  some (Out.ret false)
  else
  XfX k a0 a1 a2 n (ad .i64 x3 1)
  else
  some (Out.brk x3)
def F39 (k : Nat) (a0 : Sl Str) (a1 : Sl Str) : Option Bool :=
 if (Sl.len a0) != (Sl.len a1) then
 some false
 else
 (XfX k a0 a1 (Sl.len a0) k 0).bind fun y2 =>
 match y2 with
 | .ret y2r => some y2r
 | .brk y2b =>
 some true
theorem Xsl {k : Nat} {a1 : Sl Str} {a2 : Sl Str} {a3 : Int} {S0 : List SObj} {R : List Nat} {K : KX}  {o : Out Bool Int}
  (hret : ∀ r : Bool, o = .ret r → EK [(4, (.bool r))] S0 R [] [] [] (K .ret))
  (hbrk : ∀ y : Int, o = .brk y → EK [] S0 R [] [] [] (K (.exit 0))) :
  ∀ {n : Nat} {x4 : Int}, XfX k a1 a2 a3 n x4 = some o → ∀ {σ : Nat → PV} {S : List SObj}, Xa2 [(0, (Xar eS a1)), (1, (Xar eS a2)), (12, (.int .i64 a3)), (13, (.int .i64 x4))] σ → Hp S0 R S [] [] [] → WC env ⟨26, S0.length⟩ (.loop Xp0) σ S false K := by
 intro n
 induction n with
 | zero => intro _ h; cases h
 | succ n ih =>
  intro x4 h σ S  hk H
  rw [XfX] at h
  refine b_ <| X_ hk <| B_ <| us 1 rfl <| A_ <| I_ ?_
  rcases Xa1 h with ⟨hc5, h⟩ | ⟨hc5, h⟩
  refine F_ rfl hc5 <| M_ <| C_ <| I_ <| R_ <| B_ <| us 2 rfl <| A_ <| I_ <| h_ <| wh _ rfl rfl <| wh _ rfl rfl ?_
  obtain ⟨y6, hy6, h⟩ := Xaf h
  refine Wxh hy6 rfl rfl <| wh _ rfl rfl <| wh _ rfl rfl <| wh _ rfl rfl ?_
  obtain ⟨y7, hy7, h⟩ := Xaf h
  refine Wxh hy7 rfl rfl <| wh _ rfl rfl <| f_ <| us 1 rfl <| A_ <| C_ ?_
  rcases Xa1 h with ⟨hc8, h⟩ | ⟨hc8, h⟩
  refine F_ rfl hc8 <| B_ <| us 1 rfl <| A_ <| Q_ <| P_ <| H_ <| H_ ?_
  cases oi h
  exact hret _ rfl kn (hs H)
  refine G_ rfl hc8 <| M_ <| V_ <| C_ <| S_ <| us 2 rfl <| A_ <| C_ ?_
  exact ih h  kn (hs H)
  refine G_ rfl hc5 <| Y_ <| K_ <| K_ ?_
  cases oi h
  exact hbrk _ rfl  m_ (hs H)
theorem s39 : ∀ k : Nat, ∀ {a0 : Sl Str} {a1 : Sl Str} {r : Bool}, F39 k a0 a1 = some r → Q 39 [(Xar eS a0), (Xar eS a1)] (.bool r) := by
 intro k a0 a1 r h
 unfold F39 at h
 refine Qg (pf := Xuj) rfl cq rfl fun H => ?_
 refine B_ <| us 1 rfl <| A_ <| I_ <| B_ <| us 1 rfl <| Wl rfl <| us 1 rfl <| Wl rfl <| us 1 rfl <| A_ ?_
 rcases Xa1 h with ⟨hc2, h⟩ | ⟨hc2, h⟩
 refine F_ rfl hc2 <| B_ <| us 1 rfl <| A_ <| Q_ <| H_ ?_
 have h := oi h; subst h
 exact Kr (.bool false) rfl rfl
 refine G_ rfl hc2 <| M_ <| C_ <| I_ <| B_ <| us 1 rfl <| Wl rfl <| us 1 rfl <| A_ ?_
 obtain ⟨y3, hy3, hOy3⟩ := Xaf h
 refine R_ ?_
 refine Xsl ?_ ?_ hy3  kn (hs H)
 intro y3r he σ S  hk H; subst he; replace h := hOy3; dsimp only at h
 refine J_ hk <| P_ <| H_ ?_
 have h := oi h; subst h
 exact Kr (.bool y3r) rfl rfl
 intro y3b he σ S  hk H; subst he; replace h := hOy3; dsimp only at h
 refine J_ hk <| U_ <| C_ <| B_ <| us 1 rfl <| A_ <| Q_ ?_
 have h := oi h; subst h
 exact Kr (.bool true) rfl rfl
def XcM (rc0 : Xae → Xae → Option Bool) (k : Nat) (a1 : Sl Xae) (a2 : Sl Xae) (a3 : Int) : Nat → Int → Option (Out Bool Int)
 | 0, _ => none
 | n + 1, x4 =>
  if decide (x4 < a3) then
  (Sl.at? a2 x4).bind fun y5 =>
  (Sl.at? a1 x4).bind fun y6 =>
  (rc0 y5 y6).bind fun y7 =>
  if !y7 then
  some (Out.ret false)
  else
  XcM rc0 k a1 a2 a3 n (ad .i64 x4 1)
  else
  some (Out.brk x4)
def Xik (k : Nat) (rc0 : Xae → Xae → Option Bool) (a0 : Sl Xae) (a1 : Sl Xae) : Option Bool :=
 if (Sl.len a0) != (Sl.len a1) then
 some false
 else
 (XcM rc0 k a1 a0 (Sl.len a0) k 0).bind fun y2 =>
 match y2 with
 | .ret y2r => some y2r
 | .brk y2b =>
 some true
theorem XkF {rc0 : Xae → Xae → Option Bool} (hrc0 : ∀ {a0 : Xae} {a1 : Xae} {r : Bool}, rc0 a0 a1 = some r → Q 38 [(.agg (Xag a0)), (.agg (Xag a1))] (.bool r)) {k : Nat} {a2 : Sl Xae} {a3 : Sl Xae} {a4 : Int} {S0 : List SObj} {R : List Nat} {K : KX}  {o : Out Bool Int}
  (hret : ∀ r : Bool, o = .ret r → EK [(6, (.bool r))] S0 R [] [] [] (K .ret))
  (hbrk : ∀ y : Int, o = .brk y → EK [] S0 R [] [] [] (K (.exit 0))) :
  ∀ {n : Nat} {x5 : Int}, XcM rc0 k a2 a3 a4 n x5 = some o → ∀ {σ : Nat → PV} {S : List SObj}, Xa2 [(1, (Xar Xan a2)), (2, (.fn (.func 38) [] [])), (15, (Xar Xan a3)), (16, (.int .i64 a4)), (17, (.int .i64 x5))] σ → Hp S0 R S [] [] [] → WC env ⟨32, S0.length⟩ (.loop Xp3) σ S false K := by
 intro n
 induction n with
 | zero => intro _ h; cases h
 | succ n ih =>
  intro x5 h σ S  hk H
  rw [XcM] at h
  refine b_ <| X_ hk <| B_ <| us 1 rfl <| A_ <| I_ ?_
  rcases Xa1 h with ⟨hc6, h⟩ | ⟨hc6, h⟩
  refine F_ rfl hc6 <| M_ <| C_ <| I_ <| R_ <| B_ <| us 1 rfl ?_
  obtain ⟨y7, hy7, h⟩ := Xaf h
  refine Wx hy7 (XaA _) rfl <| us 1 rfl <| Wa (ti := Xlo) H rfl ?_
  intro i8 S hi8 H
  refine us 1 rfl <| Ws 0 H hi8 rfl ?_
  intro S H
  refine A_ <| B_ <| us 2 rfl ?_
  obtain ⟨y9, hy9, h⟩ := Xaf h
  refine Wx hy9 (XaA _) rfl <| us 1 rfl <| Wa (ti := Xlo) H rfl ?_
  intro i10 S hi10 H
  refine Ws 0 H hi10 rfl ?_
  intro S H
  refine A_ <| B_ <| us 1 rfl <| Wg H 1 rfl <| Wg H 0 rfl ?_
  obtain ⟨y11, hy11, h⟩ := Xaf h
  refine Cl (.bool y11) [(.agg (Xag y7)), (.agg (Xag y9))] rfl rfl (sv (hrc0 hy11)) <| us 1 rfl <| A_ ?_
  rcases Xa1 h with ⟨hc12, h⟩ | ⟨hc12, h⟩
  refine F_ rfl hc12 <| B_ <| us 1 rfl <| A_ <| Q_ <| P_ <| H_ <| H_ ?_
  cases oi h
  exact hret _ rfl kn (H.sub (.cons _ (.cons _ .slnil)) .slnil .slnil)
  refine G_ rfl hc12 <| M_ <| V_ <| C_ <| S_ <| us 2 rfl <| A_ <| C_ ?_
  exact ih h  kn (H.sub (.cons _ (.cons _ .slnil)) .slnil .slnil)
  refine G_ rfl hc6 <| Y_ <| K_ <| K_ ?_
  cases oi h
  exact hbrk _ rfl  m_ (hs H)
theorem Xsm {rc0 : Xae → Xae → Option Bool} (hrc0 : ∀ {a0 : Xae} {a1 : Xae} {r : Bool}, rc0 a0 a1 = some r → Q 38 [(.agg (Xag a0)), (.agg (Xag a1))] (.bool r))  : ∀ k : Nat, ∀ {a0 : Sl Xae} {a1 : Sl Xae} {r : Bool}, Xik k rc0 a0 a1 = some r → Q 71 [(Xar Xan a0), (Xar Xan a1), (.fn (.func 38) [] [])] (.bool r) := by
 intro k a0 a1 r h
 unfold Xik at h
 refine Qg (pf := Xuk) rfl cq rfl fun H => ?_
 refine B_ <| us 1 rfl <| A_ <| I_ <| B_ <| us 1 rfl <| Wl rfl <| us 1 rfl <| Wl rfl <| us 1 rfl <| A_ ?_
 rcases Xa1 h with ⟨hc2, h⟩ | ⟨hc2, h⟩
 refine F_ rfl hc2 <| B_ <| us 1 rfl <| A_ <| Q_ <| H_ ?_
 have h := oi h; subst h
 exact Kr (.bool false) rfl rfl
 refine G_ rfl hc2 <| M_ <| C_ <| I_ <| B_ <| us 1 rfl <| Wl rfl <| us 1 rfl <| A_ ?_
 obtain ⟨y3, hy3, hOy3⟩ := Xaf h
 refine R_ ?_
 refine XkF hrc0 ?_ ?_ hy3  kn (hs H)
 intro y3r he σ S  hk H; subst he; replace h := hOy3; dsimp only at h
 refine J_ hk <| P_ <| H_ ?_
 have h := oi h; subst h
 exact Kr (.bool y3r) rfl rfl
 intro y3b he σ S  hk H; subst he; replace h := hOy3; dsimp only at h
 refine J_ hk <| U_ <| C_ <| B_ <| us 1 rfl <| A_ <| Q_ ?_
 have h := oi h; subst h
 exact Kr (.bool true) rfl rfl
def F38 : Nat → Xae → Xae → Option Bool
 | 0, _, _ => none
 | k + 1, a0, a1 =>
  (if ((a0.Kind == a1.Kind) && (a0.Attr == a1.Attr)) && (a0.Value == a1.Value) then
  (F39 k a0.Subs a1.Subs).bind fun y2 =>
  some y2
  else
  some false).bind fun y9 =>
  (if y9 then
  (Xik k (F38 k) a0.Kids a1.Kids).bind fun y3 =>
  some y3
  else
  some false).bind fun y4 =>
  some y4
theorem s38 : ∀ k : Nat, ∀ {a0 : Xae} {a1 : Xae} {r : Bool}, F38 k a0 a1 = some r → Q 38 [(.agg (Xag a0)), (.agg (Xag a1))] (.bool r) := by
 intro k
 induction k with
 | zero => intro _ _ r h; cases h
 | succ k ih =>
  intro a0 a1 r h
  rw [F38] at h
  refine Qg (pf := Xum) rfl cq rfl fun H => ?_
  refine B_ <| Wb H rfl ?_
  intro i1 S hi1 H
  refine Wb H rfl ?_
  intro i2 S hi2 H
  refine us 1 rfl <| A_ <| B_ <| us 1 rfl <| Wg H 1 rfl <| us 1 rfl <| Wg H 0 rfl <| w (.bool (a0.Kind == a1.Kind)) rfl rfl <| w (.bool (a0.Kind == a1.Kind)) rfl rfl ?_
  refine O_ 6 (SH H [(2, (.ptr i1 0)), (3, (.ptr i2 0)), (16, (.bool ((a0.Kind == a1.Kind) && (a0.Attr == a1.Attr))))]) ?_ ?_
  revert H
  cases hc3 : (a0.Kind == a1.Kind)
  intro H
  refine us 6 rfl <| A_ ?_
  exact kf H
  intro H
  refine us 1 rfl <| N_ rfl rfl <| Wg H 1 rfl <| us 1 rfl <| N_ rfl rfl <| Wg H 0 rfl <| us 2 rfl <| A_ ?_
  exact kf H
  rintro σ S e ⟨hk, H, rfl⟩
  generalize ((a0.Kind == a1.Kind) && (a0.Attr == a1.Attr)) = p0 at hk h
  refine E_ hk <| w (.bool p0) rfl rfl ?_
  refine O_ 6 (SH H [(2, (.ptr i1 0)), (3, (.ptr i2 0)), (23, (.bool (p0 && (a0.Value == a1.Value))))]) ?_ ?_
  revert H
  cases hc4 : p0
  intro H
  refine us 6 rfl <| A_ ?_
  exact kf H
  intro H
  refine us 1 rfl <| N_ rfl rfl <| Wg H 1 rfl <| us 1 rfl <| N_ rfl rfl <| Wg H 0 rfl <| us 2 rfl <| A_ ?_
  exact kf H
  rintro σ S e ⟨hk, H, rfl⟩
  refine E_ hk <| w (.bool (p0 && (a0.Value == a1.Value))) rfl rfl ?_
  obtain ⟨y9, hy9, hOy9⟩ := Xaf h
  refine O_ 6 (SJ [(2, (.ptr i1 0)), (3, (.ptr i2 0)), (30, (.bool y9))] [] [] [(i2, .cells (Xag a1)), (i1, .cells (Xag a0))] [] [] false) ?_ ?_
  replace h := hy9
  revert H
  cases hc5 : (p0 && (a0.Value == a1.Value))
  intro H
  replace h := Xc5 h hc5
  refine us 6 rfl <| A_ ?_
  have h := oi h; subst h
  exact kh H
  intro H
  replace h := Xc4 h hc5
  refine us 1 rfl <| N_ rfl rfl <| Wg H 1 rfl <| us 1 rfl <| N_ rfl rfl <| Wg H 0 rfl <| N_ rfl rfl ?_
  obtain ⟨y6, hy6, h⟩ := Xaf h
  refine Cl (.bool y6) [(Xar eS a0.Subs), (Xar eS a1.Subs)] rfl (fe rfl (fe rfl rfl)) (sv (s39 _ hy6)) <| us 1 rfl <| A_ ?_
  have h := oi h; subst h
  exact kh H
  rintro σ S e ⟨hk, H, rfl⟩
  replace h := hOy9
  refine E_ hk <| us 1 rfl ?_
  obtain ⟨y7, hy7, hOy7⟩ := Xaf h
  refine O_ 6 (SJ [(37, (.bool y7))] [] [] [(i2, .cells (Xag a1)), (i1, .cells (Xag a0))] [] [] false) ?_ ?_
  replace h := hy7
  revert H
  cases hc8 : y9
  intro H
  replace h := Xc5 h hc8
  refine us 6 rfl <| A_ ?_
  have h := oi h; subst h
  exact kh H
  intro H
  replace h := Xc4 h hc8
  refine us 1 rfl <| N_ rfl rfl <| Wg H 1 rfl <| us 1 rfl <| N_ rfl rfl <| Wg H 0 rfl <| N_ rfl rfl ?_
  obtain ⟨y10, hy10, h⟩ := Xaf h
  refine Cl (.bool y10) [(Xar Xan a0.Kids), (Xar Xan a1.Kids), (.fn (.func 38) [] [])] rfl (fe rfl (fe rfl (fo rfl rfl))) (sv (Xsm ih _ hy10)) <| us 1 rfl <| A_ ?_
  have h := oi h; subst h
  exact kh H
  rintro σ S e ⟨hk, H, rfl⟩
  replace h := hOy7
  refine E_ hk <| us 1 rfl <| A_ <| Q_ ?_
  have h := oi h; subst h
  exact Kr (.bool y7) rfl rfl
def F41 (k : Nat) (a0 : Xat) (a1 : Xat) : Option Bool :=
 (if (a0.Kind == a1.Kind) && (a0.Attr == a1.Attr) then
 (F39 k a0.Values a1.Values).bind fun y9 =>
 some y9
 else
 some false).bind fun y8 =>
 some y8
theorem s41 : ∀ k : Nat, ∀ {a0 : Xat} {a1 : Xat} {r : Bool}, F41 k a0 a1 = some r → Q 41 [(.agg (XbG a0)), (.agg (XbG a1))] (.bool r) := by
 intro k a0 a1 r h
 unfold F41 at h
 refine Qg (pf := Xup) rfl cq rfl fun H => ?_
 refine B_ <| Wb H rfl ?_
 intro i1 S hi1 H
 refine Wb H rfl ?_
 intro i2 S hi2 H
 refine us 1 rfl <| A_ <| B_ <| us 1 rfl <| Wg H 1 rfl <| us 1 rfl <| Wg H 0 rfl <| w (.bool (a0.Kind == a1.Kind)) rfl rfl <| w (.bool (a0.Kind == a1.Kind)) rfl rfl ?_
 refine O_ 6 (SH H [(2, (.ptr i1 0)), (3, (.ptr i2 0)), (16, (.bool ((a0.Kind == a1.Kind) && (a0.Attr == a1.Attr))))]) ?_ ?_
 revert H
 cases hc3 : (a0.Kind == a1.Kind)
 intro H
 refine us 6 rfl <| A_ ?_
 exact kf H
 intro H
 refine us 1 rfl <| N_ rfl rfl <| Wg H 1 rfl <| us 1 rfl <| N_ rfl rfl <| Wg H 0 rfl <| us 2 rfl <| A_ ?_
 exact kf H
 rintro σ S e ⟨hk, H, rfl⟩
 generalize ((a0.Kind == a1.Kind) && (a0.Attr == a1.Attr)) = p0 at hk h
 refine E_ hk <| w (.bool p0) rfl rfl ?_
 obtain ⟨y8, hy8, hOy8⟩ := Xaf h
 refine O_ 6 (SJ [(23, (.bool y8))] [] [] [(i2, .cells (XbG a1)), (i1, .cells (XbG a0))] [] [] false) ?_ ?_
 replace h := hy8
 revert H
 cases hc4 : p0
 intro H
 replace h := Xc5 h hc4
 refine us 6 rfl <| A_ ?_
 have h := oi h; subst h
 exact kh H
 intro H
 replace h := Xc4 h hc4
 refine us 1 rfl <| N_ rfl rfl <| Wg H 1 rfl <| us 1 rfl <| N_ rfl rfl <| Wg H 0 rfl <| N_ rfl rfl ?_
 obtain ⟨y9, hy9, h⟩ := Xaf h
 refine Cl (.bool y9) [(Xar eS a0.Values), (Xar eS a1.Values)] rfl (fe rfl (fe rfl rfl)) (sv (s39 _ hy9)) <| us 1 rfl <| A_ ?_
 have h := oi h; subst h
 exact kh H
 rintro σ S e ⟨hk, H, rfl⟩
 replace h := hOy8
 refine E_ hk <| us 1 rfl <| A_ <| Q_ ?_
 have h := oi h; subst h
 exact Kr (.bool y8) rfl rfl
def XcN (k : Nat) (a0 : Sl Xat) (a1 : Sl Xat) (a2 : Int) : Nat → Int → Option (Out Bool Int)
 | 0, _ => none
 | n + 1, x3 =>
  if decide (x3 < a2) then
  (Sl.at? a1 x3).bind fun y4 =>
  (Sl.at? a0 x3).bind fun y5 =>
  (F41 k y4 y5).bind fun y6 =>
  if !y6 then
  some (Out.ret false)
  else
  XcN k a0 a1 a2 n (ad .i64 x3 1)
  else
  some (Out.brk x3)
def Xil (k : Nat) (a0 : Sl Xat) (a1 : Sl Xat) : Option Bool :=
 if (Sl.len a0) != (Sl.len a1) then
 some false
 else
 (XcN k a1 a0 (Sl.len a0) k 0).bind fun y2 =>
 match y2 with
 | .ret y2r => some y2r
 | .brk y2b =>
 some true
theorem XkG {k : Nat} {a1 : Sl Xat} {a2 : Sl Xat} {a3 : Int} {S0 : List SObj} {R : List Nat} {K : KX}  {o : Out Bool Int}
  (hret : ∀ r : Bool, o = .ret r → EK [(6, (.bool r))] S0 R [] [] [] (K .ret))
  (hbrk : ∀ y : Int, o = .brk y → EK [] S0 R [] [] [] (K (.exit 0))) :
  ∀ {n : Nat} {x4 : Int}, XcN k a1 a2 a3 n x4 = some o → ∀ {σ : Nat → PV} {S : List SObj}, Xa2 [(1, (Xar Xao a1)), (2, (.fn (.func 41) [] [])), (15, (Xar Xao a2)), (16, (.int .i64 a3)), (17, (.int .i64 x4))] σ → Hp S0 R S [] [] [] → WC env ⟨32, S0.length⟩ (.loop Xp7) σ S false K := by
 intro n
 induction n with
 | zero => intro _ h; cases h
 | succ n ih =>
  intro x4 h σ S  hk H
  rw [XcN] at h
  refine b_ <| X_ hk <| B_ <| us 1 rfl <| A_ <| I_ ?_
  rcases Xa1 h with ⟨hc5, h⟩ | ⟨hc5, h⟩
  refine F_ rfl hc5 <| M_ <| C_ <| I_ <| R_ <| B_ <| us 1 rfl ?_
  obtain ⟨y6, hy6, h⟩ := Xaf h
  refine Wx hy6 (Xaz _) rfl <| us 1 rfl <| Wa (ti := XlD) H rfl ?_
  intro i7 S hi7 H
  refine us 1 rfl <| Ws 0 H hi7 rfl ?_
  intro S H
  refine A_ <| B_ <| us 2 rfl ?_
  obtain ⟨y8, hy8, h⟩ := Xaf h
  refine Wx hy8 (Xaz _) rfl <| us 1 rfl <| Wa (ti := XlD) H rfl ?_
  intro i9 S hi9 H
  refine Ws 0 H hi9 rfl ?_
  intro S H
  refine A_ <| B_ <| us 1 rfl <| Wg H 1 rfl <| Wg H 0 rfl ?_
  obtain ⟨y10, hy10, h⟩ := Xaf h
  refine Cl (.bool y10) [(.agg (XbG y6)), (.agg (XbG y8))] rfl rfl (sv (s41 _ hy10)) <| us 1 rfl <| A_ ?_
  rcases Xa1 h with ⟨hc11, h⟩ | ⟨hc11, h⟩
  refine F_ rfl hc11 <| B_ <| us 1 rfl <| A_ <| Q_ <| P_ <| H_ <| H_ ?_
  cases oi h
  exact hret _ rfl kn (H.sub (.cons _ (.cons _ .slnil)) .slnil .slnil)
  refine G_ rfl hc11 <| M_ <| V_ <| C_ <| S_ <| us 2 rfl <| A_ <| C_ ?_
  exact ih h  kn (H.sub (.cons _ (.cons _ .slnil)) .slnil .slnil)
  refine G_ rfl hc5 <| Y_ <| K_ <| K_ ?_
  cases oi h
  exact hbrk _ rfl  m_ (hs H)
theorem Xsn : ∀ k : Nat, ∀ {a0 : Sl Xat} {a1 : Sl Xat} {r : Bool}, Xil k a0 a1 = some r → Q 40 [(Xar Xao a0), (Xar Xao a1), (.fn (.func 41) [] [])] (.bool r) := by
 intro k a0 a1 r h
 unfold Xil at h
 refine Qg (pf := Xun) rfl cq rfl fun H => ?_
 refine B_ <| us 1 rfl <| A_ <| I_ <| B_ <| us 1 rfl <| Wl rfl <| us 1 rfl <| Wl rfl <| us 1 rfl <| A_ ?_
 rcases Xa1 h with ⟨hc2, h⟩ | ⟨hc2, h⟩
 refine F_ rfl hc2 <| B_ <| us 1 rfl <| A_ <| Q_ <| H_ ?_
 have h := oi h; subst h
 exact Kr (.bool false) rfl rfl
 refine G_ rfl hc2 <| M_ <| C_ <| I_ <| B_ <| us 1 rfl <| Wl rfl <| us 1 rfl <| A_ ?_
 obtain ⟨y3, hy3, hOy3⟩ := Xaf h
 refine R_ ?_
 refine XkG ?_ ?_ hy3  kn (hs H)
 intro y3r he σ S  hk H; subst he; replace h := hOy3; dsimp only at h
 refine J_ hk <| P_ <| H_ ?_
 have h := oi h; subst h
 exact Kr (.bool y3r) rfl rfl
 intro y3b he σ S  hk H; subst he; replace h := hOy3; dsimp only at h
 refine J_ hk <| U_ <| C_ <| B_ <| us 1 rfl <| A_ <| Q_ ?_
 have h := oi h; subst h
 exact Kr (.bool true) rfl rfl
def F13 (k : Nat) (a0 : Xay) (a1 : Xay) : Option Bool :=
 (F38 k a0.Filter a1.Filter).bind fun y3 =>
 (if y3 then
 (F39 k a0.Wants a1.Wants).bind fun y9 =>
 some y9
 else
 some false).bind fun y8 =>
 (if y8 then
 (Xil k a0.Mods a1.Mods).bind fun y2 =>
 some y2
 else
 some false).bind fun y4 =>
 some (((((((((y4 && (((((((a0.ID == a1.ID) && (a0.Op == a1.Op)) && (a0.Of == a1.Of)) && (a0.Version == a1.Version)) && (a0.Scope == a1.Scope)) && (a0.Size == a1.Size)) && (a0.Code == a1.Code))) && ((a0.DelOld == a1.DelOld) && (a0.HasSup == a1.HasSup))) && (a0.DN == a1.DN)) && (a0.Pass == a1.Pass)) && (a0.RDN == a1.RDN)) && (a0.Sup == a1.Sup)) && (a0.Attr == a1.Attr)) && (a0.Value == a1.Value)) && (a0.Matched == a1.Matched))
theorem s13 : ∀ k : Nat, ∀ {a0 : Xay} {a1 : Xay} {r : Bool}, F13 k a0 a1 = some r → Q 13 [(.agg (Xak a0)), (.agg (Xak a1))] (.bool r) := by
 intro k a0 a1 r h
 unfold F13 at h
 refine Qg (pf := Xur) rfl cq rfl fun H => ?_
 refine B_ <| Wb H rfl ?_
 intro i1 S hi1 H
 refine Wb H rfl ?_
 intro i2 S hi2 H
 refine us 1 rfl <| A_ <| B_ <| us 1 rfl <| Wg H 1 rfl <| us 1 rfl <| Wg H 0 rfl ?_
 obtain ⟨y3, hy3, h⟩ := Xaf h
 refine Cl (.bool y3) [(.agg (Xag a0.Filter)), (.agg (Xag a1.Filter))] rfl rfl (sv (s38 _ hy3)) <| us 1 rfl ?_
 obtain ⟨y8, hy8, hOy8⟩ := Xaf h
 refine O_ 6 (SJ [(2, (.ptr i1 0)), (3, (.ptr i2 0)), (19, (.bool y8))] [] [] [(i2, .cells (Xak a1)), (i1, .cells (Xak a0))] [] [] false) ?_ ?_
 replace h := hy8
 revert H
 cases hc4 : y3
 intro H
 replace h := Xc5 h hc4
 refine us 6 rfl <| A_ ?_
 cases oi h
 exact kh H
 intro H
 replace h := Xc4 h hc4
 refine us 1 rfl <| N_ rfl rfl <| Wg H 1 rfl <| us 1 rfl <| N_ rfl rfl <| Wg H 0 rfl <| N_ rfl rfl ?_
 obtain ⟨y9, hy9, h⟩ := Xaf h
 refine Cl (.bool y9) [(Xar eS a0.Wants), (Xar eS a1.Wants)] rfl (fe rfl (fe rfl rfl)) (sv (s39 _ hy9)) <| us 1 rfl <| A_ ?_
 cases oi h
 exact kh H
 rintro σ S e ⟨hk, H, rfl⟩
 replace h := hOy8
 refine E_ hk <| us 1 rfl ?_
 obtain ⟨y5, hy5, hOy5⟩ := Xaf h
 refine O_ 6 (SJ [(2, (.ptr i1 0)), (3, (.ptr i2 0)), (26, (.bool y5))] [] [] [(i2, .cells (Xak a1)), (i1, .cells (Xak a0))] [] [] false) ?_ ?_
 replace h := hy5
 revert H
 cases hc6 : y8
 intro H
 replace h := Xc5 h hc6
 refine us 6 rfl <| A_ ?_
 cases oi h
 exact kh H
 intro H
 replace h := Xc4 h hc6
 refine us 1 rfl <| N_ rfl rfl <| Wg H 1 rfl <| us 1 rfl <| N_ rfl rfl <| Wg H 0 rfl <| N_ rfl rfl ?_
 obtain ⟨y7, hy7, h⟩ := Xaf h
 refine Cl (.bool y7) [(Xar Xao a0.Mods), (Xar Xao a1.Mods), (.fn (.func 41) [] [])] rfl (fe rfl (fe rfl (fo rfl rfl))) (sv (Xsn _ hy7)) <| us 1 rfl <| A_ ?_
 cases oi h
 exact kh H
 rintro σ S e ⟨hk, H, rfl⟩
 replace h := hOy5
 refine E_ hk <| us 1 rfl <| A_ <| B_ <| us 1 rfl <| Wg H 1 rfl <| us 1 rfl <| Wg H 0 rfl <| w (.bool (a0.ID == a1.ID)) rfl rfl <| w (.bool (a0.ID == a1.ID)) rfl rfl ?_
 refine O_ 6 (SH H [(2, (.ptr i1 0)), (3, (.ptr i2 0)), (5, (.bool y5)), (38, (.bool ((a0.ID == a1.ID) && (a0.Op == a1.Op))))]) ?_ ?_
 revert H
 cases hc10 : (a0.ID == a1.ID)
 intro H
 refine us 6 rfl <| A_ ?_
 exact kf H
 intro H
 refine us 1 rfl <| N_ rfl rfl <| Wg H 1 rfl <| us 1 rfl <| N_ rfl rfl <| Wg H 0 rfl <| us 2 rfl <| A_ ?_
 exact kf H
 rintro σ S e ⟨hk, H, rfl⟩
 refine E_ hk <| w (.bool ((a0.ID == a1.ID) && (a0.Op == a1.Op))) rfl rfl ?_
 refine O_ 6 (SH H [(2, (.ptr i1 0)), (3, (.ptr i2 0)), (5, (.bool y5)), (45, (.bool (((a0.ID == a1.ID) && (a0.Op == a1.Op)) && (a0.Of == a1.Of))))]) ?_ ?_
 revert H
 cases hc11 : ((a0.ID == a1.ID) && (a0.Op == a1.Op))
 intro H
 refine us 6 rfl <| A_ ?_
 exact kf H
 intro H
 refine us 1 rfl <| N_ rfl rfl <| Wg H 1 rfl <| us 1 rfl <| N_ rfl rfl <| Wg H 0 rfl <| us 2 rfl <| A_ ?_
 exact kf H
 rintro σ S e ⟨hk, H, rfl⟩
 generalize (((a0.ID == a1.ID) && (a0.Op == a1.Op)) && (a0.Of == a1.Of)) = p0 at hk h
 refine E_ hk <| w (.bool p0) rfl rfl ?_
 refine O_ 6 (SH H [(2, (.ptr i1 0)), (3, (.ptr i2 0)), (5, (.bool y5)), (52, (.bool (p0 && (a0.Version == a1.Version))))]) ?_ ?_
 revert H
 cases hc12 : p0
 intro H
 refine us 6 rfl <| A_ ?_
 exact kf H
 intro H
 refine us 1 rfl <| N_ rfl rfl <| Wg H 1 rfl <| us 1 rfl <| N_ rfl rfl <| Wg H 0 rfl <| us 2 rfl <| A_ ?_
 exact kf H
 rintro σ S e ⟨hk, H, rfl⟩
 refine E_ hk <| w (.bool (p0 && (a0.Version == a1.Version))) rfl rfl ?_
 refine O_ 6 (SH H [(2, (.ptr i1 0)), (3, (.ptr i2 0)), (5, (.bool y5)), (59, (.bool ((p0 && (a0.Version == a1.Version)) && (a0.Scope == a1.Scope))))]) ?_ ?_
 revert H
 cases hc13 : (p0 && (a0.Version == a1.Version))
 intro H
 refine us 6 rfl <| A_ ?_
 exact kf H
 intro H
 refine us 1 rfl <| N_ rfl rfl <| Wg H 1 rfl <| us 1 rfl <| N_ rfl rfl <| Wg H 0 rfl <| us 2 rfl <| A_ ?_
 exact kf H
 rintro σ S e ⟨hk, H, rfl⟩
 generalize ((p0 && (a0.Version == a1.Version)) && (a0.Scope == a1.Scope)) = p1 at hk h
 refine E_ hk <| w (.bool p1) rfl rfl ?_
 refine O_ 6 (SH H [(2, (.ptr i1 0)), (3, (.ptr i2 0)), (5, (.bool y5)), (66, (.bool (p1 && (a0.Size == a1.Size))))]) ?_ ?_
 revert H
 cases hc14 : p1
 intro H
 refine us 6 rfl <| A_ ?_
 exact kf H
 intro H
 refine us 1 rfl <| N_ rfl rfl <| Wg H 1 rfl <| us 1 rfl <| N_ rfl rfl <| Wg H 0 rfl <| us 2 rfl <| A_ ?_
 exact kf H
 rintro σ S e ⟨hk, H, rfl⟩
 refine E_ hk <| w (.bool (p1 && (a0.Size == a1.Size))) rfl rfl ?_
 refine O_ 6 (SH H [(2, (.ptr i1 0)), (3, (.ptr i2 0)), (5, (.bool y5)), (73, (.bool ((p1 && (a0.Size == a1.Size)) && (a0.Code == a1.Code))))]) ?_ ?_
 revert H
 cases hc15 : (p1 && (a0.Size == a1.Size))
 intro H
 refine us 6 rfl <| A_ ?_
 exact kf H
 intro H
 refine us 1 rfl <| N_ rfl rfl <| Wg H 1 rfl <| us 1 rfl <| N_ rfl rfl <| Wg H 0 rfl <| us 2 rfl <| A_ ?_
 exact kf H
 rintro σ S e ⟨hk, H, rfl⟩
 generalize ((p1 && (a0.Size == a1.Size)) && (a0.Code == a1.Code)) = p2 at hk h
 refine E_ hk <| us 1 rfl <| A_ <| B_ <| us 1 rfl <| Wg H 1 rfl <| us 1 rfl <| Wg H 0 rfl <| w (.bool (a0.DelOld == a1.DelOld)) rfl rfl <| w (.bool (a0.DelOld == a1.DelOld)) rfl rfl ?_
 refine O_ 6 (SH H [(2, (.ptr i1 0)), (3, (.ptr i2 0)), (5, (.bool y5)), (6, (.bool p2)), (85, (.bool ((a0.DelOld == a1.DelOld) && (a0.HasSup == a1.HasSup))))]) ?_ ?_
 revert H
 cases hc16 : (a0.DelOld == a1.DelOld)
 intro H
 refine us 6 rfl <| A_ ?_
 exact kf H
 intro H
 refine us 1 rfl <| N_ rfl rfl <| Wg H 1 rfl <| us 1 rfl <| N_ rfl rfl <| Wg H 0 rfl <| us 2 rfl <| A_ ?_
 exact kf H
 rintro σ S e ⟨hk, H, rfl⟩
 generalize ((a0.DelOld == a1.DelOld) && (a0.HasSup == a1.HasSup)) = p3 at hk h
 refine E_ hk <| us 1 rfl <| A_ <| B_ <| us 2 rfl ?_
 refine O_ 2 (SH H [(2, (.ptr i1 0)), (3, (.ptr i2 0)), (7, (.bool p3)), (89, (.bool (y5 && p2)))]) ?_ ?_
 revert H
 cases hc17 : y5
 intro H
 refine us 2 rfl <| A_ ?_
 exact kf H
 intro H
 refine us 2 rfl <| A_ ?_
 exact kf H
 rintro σ S e ⟨hk, H, rfl⟩
 refine E_ hk <| w (.bool (y5 && p2)) rfl rfl ?_
 refine O_ 2 (SH H [(2, (.ptr i1 0)), (3, (.ptr i2 0)), (92, (.bool ((y5 && p2) && p3)))]) ?_ ?_
 revert H
 cases hc18 : (y5 && p2)
 intro H
 refine us 2 rfl <| A_ ?_
 exact kf H
 intro H
 refine us 2 rfl <| A_ ?_
 exact kf H
 rintro σ S e ⟨hk, H, rfl⟩
 refine E_ hk <| w (.bool ((y5 && p2) && p3)) rfl rfl ?_
 refine O_ 6 (SH H [(2, (.ptr i1 0)), (3, (.ptr i2 0)), (99, (.bool (((y5 && p2) && p3) && (a0.DN == a1.DN))))]) ?_ ?_
 revert H
 cases hc19 : ((y5 && p2) && p3)
 intro H
 refine us 6 rfl <| A_ ?_
 exact kf H
 intro H
 refine us 1 rfl <| N_ rfl rfl <| Wg H 1 rfl <| us 1 rfl <| N_ rfl rfl <| Wg H 0 rfl <| us 2 rfl <| A_ ?_
 exact kf H
 rintro σ S e ⟨hk, H, rfl⟩
 refine E_ hk <| w (.bool (((y5 && p2) && p3) && (a0.DN == a1.DN))) rfl rfl ?_
 refine O_ 6 (SH H [(2, (.ptr i1 0)), (3, (.ptr i2 0)), (106, (.bool ((((y5 && p2) && p3) && (a0.DN == a1.DN)) && (a0.Pass == a1.Pass))))]) ?_ ?_
 revert H
 cases hc20 : (((y5 && p2) && p3) && (a0.DN == a1.DN))
 intro H
 refine us 6 rfl <| A_ ?_
 exact kf H
 intro H
 refine us 1 rfl <| N_ rfl rfl <| Wg H 1 rfl <| us 1 rfl <| N_ rfl rfl <| Wg H 0 rfl <| us 2 rfl <| A_ ?_
 exact kf H
 rintro σ S e ⟨hk, H, rfl⟩
 generalize ((((y5 && p2) && p3) && (a0.DN == a1.DN)) && (a0.Pass == a1.Pass)) = p4 at hk h
 refine E_ hk <| w (.bool p4) rfl rfl ?_
 refine O_ 6 (SH H [(2, (.ptr i1 0)), (3, (.ptr i2 0)), (113, (.bool (p4 && (a0.RDN == a1.RDN))))]) ?_ ?_
 revert H
 cases hc21 : p4
 intro H
 refine us 6 rfl <| A_ ?_
 exact kf H
 intro H
 refine us 1 rfl <| N_ rfl rfl <| Wg H 1 rfl <| us 1 rfl <| N_ rfl rfl <| Wg H 0 rfl <| us 2 rfl <| A_ ?_
 exact kf H
 rintro σ S e ⟨hk, H, rfl⟩
 refine E_ hk <| w (.bool (p4 && (a0.RDN == a1.RDN))) rfl rfl ?_
 refine O_ 6 (SH H [(2, (.ptr i1 0)), (3, (.ptr i2 0)), (120, (.bool ((p4 && (a0.RDN == a1.RDN)) && (a0.Sup == a1.Sup))))]) ?_ ?_
 revert H
 cases hc22 : (p4 && (a0.RDN == a1.RDN))
 intro H
 refine us 6 rfl <| A_ ?_
 exact kf H
 intro H
 refine us 1 rfl <| N_ rfl rfl <| Wg H 1 rfl <| us 1 rfl <| N_ rfl rfl <| Wg H 0 rfl <| us 2 rfl <| A_ ?_
 exact kf H
 rintro σ S e ⟨hk, H, rfl⟩
 generalize ((p4 && (a0.RDN == a1.RDN)) && (a0.Sup == a1.Sup)) = p5 at hk h
 refine E_ hk <| w (.bool p5) rfl rfl ?_
 refine O_ 6 (SH H [(2, (.ptr i1 0)), (3, (.ptr i2 0)), (127, (.bool (p5 && (a0.Attr == a1.Attr))))]) ?_ ?_
 revert H
 cases hc23 : p5
 intro H
 refine us 6 rfl <| A_ ?_
 exact kf H
 intro H
 refine us 1 rfl <| N_ rfl rfl <| Wg H 1 rfl <| us 1 rfl <| N_ rfl rfl <| Wg H 0 rfl <| us 2 rfl <| A_ ?_
 exact kf H
 rintro σ S e ⟨hk, H, rfl⟩
 refine E_ hk <| w (.bool (p5 && (a0.Attr == a1.Attr))) rfl rfl ?_
 refine O_ 6 (SH H [(2, (.ptr i1 0)), (3, (.ptr i2 0)), (134, (.bool ((p5 && (a0.Attr == a1.Attr)) && (a0.Value == a1.Value))))]) ?_ ?_
 revert H
 cases hc24 : (p5 && (a0.Attr == a1.Attr))
 intro H
 refine us 6 rfl <| A_ ?_
 exact kf H
 intro H
 refine us 1 rfl <| N_ rfl rfl <| Wg H 1 rfl <| us 1 rfl <| N_ rfl rfl <| Wg H 0 rfl <| us 2 rfl <| A_ ?_
 exact kf H
 rintro σ S e ⟨hk, H, rfl⟩
 generalize ((p5 && (a0.Attr == a1.Attr)) && (a0.Value == a1.Value)) = p6 at hk h
 refine E_ hk <| w (.bool p6) rfl rfl ?_
 refine O_ 6 (SH H [(141, (.bool (p6 && (a0.Matched == a1.Matched))))]) ?_ ?_
 revert H
 cases hc25 : p6
 intro H
 refine us 6 rfl <| A_ ?_
 exact kf H
 intro H
 refine us 1 rfl <| N_ rfl rfl <| Wg H 1 rfl <| us 1 rfl <| N_ rfl rfl <| Wg H 0 rfl <| us 2 rfl <| A_ ?_
 exact kf H
 rintro σ S e ⟨hk, H, rfl⟩
 refine E_ hk <| us 1 rfl <| A_ <| Q_ ?_
 cases oi h
 exact Kr (.bool (p6 && (a0.Matched == a1.Matched))) rfl rfl
def XfY (rc0 : Xae → Int → Option Bool) (k : Nat) (a1 : Int) (a2 : Xae) : Nat → Int → Option (Out Bool Int)
 | 0, _ => none
 | n + 1, x3 =>
  if decide (x3 < (Sl.len a2.Subs)) then
  (Sl.at? a2.Subs x3).bind fun y4 =>
  if decide ((Str.len y4) > 80) then
  some (Out.ret false)
  else
  XfY rc0 k a1 a2 n (ad .i64 x3 1)
  else
  some (Out.brk x3)
def XfZ (rc0 : Xae → Int → Option Bool) (k : Nat) (a1 : Int) (a2 : Xae) : Nat → Int → Option (Out Bool Int)
 | 0, _ => none
 | n + 1, x3 =>
  if decide (x3 < (Sl.len a2.Kids)) then
  (Sl.at? a2.Kids x3).bind fun y4 =>
  (rc0 y4 (ad .i64 a1 1)).bind fun y5 =>
  if !y5 then
  some (Out.ret false)
  else
  XfZ rc0 k a1 a2 n (ad .i64 x3 1)
  else
  some (Out.brk x3)
def F17 : Nat → Xae → Int → Option Bool
 | 0, _, _ => none
 | k + 1, a0, a1 =>
  if ((((decide (a1 > 12)) || (decide ((Sl.len a0.Kids) > 8))) || (decide ((Str.len a0.Attr) > 30))) || (decide ((Str.len a0.Value) > 80))) || (decide ((Sl.len a0.Subs) > 24)) then
  some false
  else
  (XfY (F17 k) k a1 a0 k 0).bind fun y2 =>
  match y2 with
  | .ret y2r => some y2r
  | .brk y2b =>
  (XfZ (F17 k) k a1 a0 k 0).bind fun y3 =>
  match y3 with
  | .ret y3r => some y3r
  | .brk y3b =>
  some true
theorem Xso {rc0 : Xae → Int → Option Bool} (hrc0 : ∀ {a0 : Xae} {a1 : Int} {r : Bool}, rc0 a0 a1 = some r → Q 17 [(.agg (Xag a0)), (.int .i64 a1)] (.bool r)) {k : Nat} {a2 : Int} {a3 : Xae} {S0 : List SObj} {R : List Nat} {K : KX} {i1 : Nat} (hi1 : S0.length ≤ i1)  {o : Out Bool Int}
  (hret : ∀ r : Bool, o = .ret r → EK [(4, (.bool r))] S0 R [] [] [] (K .ret))
  (hbrk : ∀ y : Int, o = .brk y → EK [(1, (.int .i64 a2)), (2, (.ptr i1 0))] S0 R [(i1, .cells (Xag a3))] [] [] (K (.exit 0))) :
  ∀ {n : Nat} {x4 : Int}, XfY rc0 k a2 a3 n x4 = some o → ∀ {σ : Nat → PV} {S : List SObj}, Xa2 [(1, (.int .i64 a2)), (2, (.ptr i1 0)), (5, (.int .i64 x4))] σ → Hp S0 R S [(i1, .cells (Xag a3))] [] [] → WC env ⟨63, S0.length⟩ (.loop Xrf) σ S false K := by
 intro n
 induction n with
 | zero => intro _ h; cases h
 | succ n ih =>
  intro x4 h σ S  hk H
  rw [XfY] at h
  refine b_ <| X_ hk <| I_ <| B_ <| us 2 rfl <| Wg H 0 rfl <| Wl rfl <| us 1 rfl <| A_ ?_
  rcases Xa1 h with ⟨hc5, h⟩ | ⟨hc5, h⟩
  refine F_ rfl hc5 <| M_ <| C_ <| I_ <| R_ <| B_ <| us 1 rfl <| Wg H 0 rfl <| us 1 rfl ?_
  obtain ⟨y6, hy6, h⟩ := Xaf h
  refine Wx hy6 rfl rfl <| us 3 rfl <| A_ ?_
  rcases Xa1 h with ⟨hc7, h⟩ | ⟨hc7, h⟩
  refine F_ rfl hc7 <| B_ <| us 1 rfl <| A_ <| Q_ <| P_ <| H_ <| H_ ?_
  cases oi h
  exact hret _ rfl kn (H.sub (.cons _ .slnil) .slnil .slnil)
  refine G_ rfl hc7 <| M_ <| V_ <| C_ <| S_ <| us 3 rfl <| A_ <| C_ ?_
  exact ih h  kn (hs H)
  refine G_ rfl hc5 <| Y_ <| K_ <| K_ ?_
  cases oi h
  exact hbrk _ rfl  kn (hs H)
theorem Xsp {rc0 : Xae → Int → Option Bool} (hrc0 : ∀ {a0 : Xae} {a1 : Int} {r : Bool}, rc0 a0 a1 = some r → Q 17 [(.agg (Xag a0)), (.int .i64 a1)] (.bool r)) {k : Nat} {a2 : Int} {a3 : Xae} {S0 : List SObj} {R : List Nat} {K : KX} {i1 : Nat} (hi1 : S0.length ≤ i1)  {o : Out Bool Int}
  (hret : ∀ r : Bool, o = .ret r → EK [(4, (.bool r))] S0 R [] [] [] (K .ret))
  (hbrk : ∀ y : Int, o = .brk y → EK [] S0 R [(i1, .cells (Xag a3))] [] [] (K (.exit 2))) :
  ∀ {n : Nat} {x4 : Int}, XfZ rc0 k a2 a3 n x4 = some o → ∀ {σ : Nat → PV} {S : List SObj}, Xa2 [(1, (.int .i64 a2)), (2, (.ptr i1 0)), (6, (.int .i64 x4))] σ → Hp S0 R S [(i1, .cells (Xag a3))] [] [] → WC env ⟨63, S0.length⟩ (.loop Xrg) σ S false K := by
 intro n
 induction n with
 | zero => intro _ h; cases h
 | succ n ih =>
  intro x4 h σ S  hk H
  rw [XfZ] at h
  refine b_ <| X_ hk <| I_ <| B_ <| us 2 rfl <| Wg H 0 rfl <| Wl rfl <| us 1 rfl <| A_ ?_
  rcases Xa1 h with ⟨hc5, h⟩ | ⟨hc5, h⟩
  refine F_ rfl hc5 <| M_ <| C_ <| I_ <| R_ <| B_ <| us 1 rfl <| Wg H 0 rfl <| us 1 rfl ?_
  obtain ⟨y6, hy6, h⟩ := Xaf h
  refine Wx hy6 (XaA _) rfl <| us 3 rfl ?_
  obtain ⟨y7, hy7, h⟩ := Xaf h
  refine Cl (.bool y7) [(.agg (Xag y6)), (.int .i64 (ad .i64 a2 1))] rfl rfl (sv (hrc0 hy7)) <| us 1 rfl <| A_ ?_
  rcases Xa1 h with ⟨hc8, h⟩ | ⟨hc8, h⟩
  refine F_ rfl hc8 <| B_ <| us 1 rfl <| A_ <| Q_ <| P_ <| H_ <| H_ ?_
  cases oi h
  exact hret _ rfl kn (H.sub (.cons _ .slnil) .slnil .slnil)
  refine G_ rfl hc8 <| M_ <| V_ <| C_ <| S_ <| us 3 rfl <| A_ <| C_ ?_
  exact ih h  kn (hs H)
  refine G_ rfl hc5 <| Y_ <| K_ <| K_ ?_
  cases oi h
  exact hbrk _ rfl  m_ (hs H)
theorem s17 : ∀ k : Nat, ∀ {a0 : Xae} {a1 : Int} {r : Bool}, F17 k a0 a1 = some r → Q 17 [(.agg (Xag a0)), (.int .i64 a1)] (.bool r) := by
 intro k
 induction k with
 | zero => intro _ _ r h; cases h
 | succ k ih =>
  intro a0 a1 r h
  rw [F17] at h
  refine Qg (pf := Xvv) rfl cq rfl fun H => ?_
  refine B_ <| Wb H rfl ?_
  intro i1 S hi1 H
  refine us 1 rfl <| A_ <| I_ <| B_ <| us 1 rfl <| w (.bool (decide (a1 > 12))) rfl rfl <| w (.bool (decide (a1 > 12))) rfl rfl ?_
  refine O_ 5 (SH H [(1, (.int .i64 a1)), (2, (.ptr i1 0)), (14, (.bool ((decide (a1 > 12)) || (decide ((Sl.len a0.Kids) > 8)))))]) ?_ ?_
  revert H
  cases hc2 : (decide (a1 > 12))
  intro H
  refine us 1 rfl <| N_ rfl rfl <| Wg H 0 rfl <| N_ rfl rfl <| Wl rfl <| us 2 rfl <| A_ ?_
  exact kf H
  intro H
  refine us 5 rfl <| A_ ?_
  exact kf H
  rintro σ S e ⟨hk, H, rfl⟩
  generalize ((decide (a1 > 12)) || (decide ((Sl.len a0.Kids) > 8))) = p0 at hk h
  refine E_ hk <| w (.bool p0) rfl rfl ?_
  refine O_ 5 (SH H [(1, (.int .i64 a1)), (2, (.ptr i1 0)), (20, (.bool (p0 || (decide ((Str.len a0.Attr) > 30)))))]) ?_ ?_
  revert H
  cases hc3 : p0
  intro H
  refine us 1 rfl <| N_ rfl rfl <| Wg H 0 rfl <| us 3 rfl <| A_ ?_
  exact kf H
  intro H
  refine us 5 rfl <| A_ ?_
  exact kf H
  rintro σ S e ⟨hk, H, rfl⟩
  refine E_ hk <| w (.bool (p0 || (decide ((Str.len a0.Attr) > 30)))) rfl rfl ?_
  refine O_ 5 (SH H [(1, (.int .i64 a1)), (2, (.ptr i1 0)), (26, (.bool ((p0 || (decide ((Str.len a0.Attr) > 30))) || (decide ((Str.len a0.Value) > 80)))))]) ?_ ?_
  revert H
  cases hc4 : (p0 || (decide ((Str.len a0.Attr) > 30)))
  intro H
  refine us 1 rfl <| N_ rfl rfl <| Wg H 0 rfl <| us 3 rfl <| A_ ?_
  exact kf H
  intro H
  refine us 5 rfl <| A_ ?_
  exact kf H
  rintro σ S e ⟨hk, H, rfl⟩
  generalize ((p0 || (decide ((Str.len a0.Attr) > 30))) || (decide ((Str.len a0.Value) > 80))) = p1 at hk h
  refine E_ hk <| w (.bool p1) rfl rfl ?_
  refine O_ 5 (SH H [(1, (.int .i64 a1)), (2, (.ptr i1 0)), (32, (.bool (p1 || (decide ((Sl.len a0.Subs) > 24)))))]) ?_ ?_
  revert H
  cases hc5 : p1
  intro H
  refine us 1 rfl <| N_ rfl rfl <| Wg H 0 rfl <| N_ rfl rfl <| Wl rfl <| us 2 rfl <| A_ ?_
  exact kf H
  intro H
  refine us 5 rfl <| A_ ?_
  exact kf H
  rintro σ S e ⟨hk, H, rfl⟩
  refine E_ hk <| A_ ?_
  rcases Xa1 h with ⟨hc6, h⟩ | ⟨hc6, h⟩
  refine F_ rfl hc6 <| B_ <| us 1 rfl <| A_ <| Q_ <| H_ ?_
  have h := oi h; subst h
  exact Kr (.bool false) rfl rfl
  refine G_ rfl hc6 <| M_ <| C_ <| I_ <| B_ <| us 1 rfl <| A_ ?_
  obtain ⟨y7, hy7, hOy7⟩ := Xaf h
  refine R_ ?_
  refine Xso ih hi1 ?_ ?_ hy7  kn (hs H)
  intro y7r he σ S  hk H; subst he; replace h := hOy7; dsimp only at h
  refine J_ hk <| P_ <| H_ ?_
  have h := oi h; subst h
  exact Kr (.bool y7r) rfl rfl
  intro y7b he σ S  hk H; subst he; replace h := hOy7; dsimp only at h
  refine J_ hk <| U_ <| C_ <| I_ <| B_ <| us 1 rfl <| A_ ?_
  obtain ⟨y8, hy8, hOy8⟩ := Xaf h
  refine R_ ?_
  refine Xsp ih hi1 ?_ ?_ hy8  kn (hs H)
  intro y8r he σ S  hk H; subst he; replace h := hOy8; dsimp only at h
  refine J_ hk <| P_ <| H_ ?_
  have h := oi h; subst h
  exact Kr (.bool y8r) rfl rfl
  intro y8b he σ S  hk H; subst he; replace h := hOy8; dsimp only at h
  refine J_ hk <| U_ <| C_ <| B_ <| us 1 rfl <| A_ <| Q_ ?_
  have h := oi h; subst h
  exact Kr (.bool true) rfl rfl
def XiU (k : Nat) (a0 : Xay) : Nat → Int → Option (Out Bool Int)
 | 0, _ => none
 | n + 1, x1 =>
  if decide (x1 < (Sl.len a0.Wants)) then
  (Sl.at? a0.Wants x1).bind fun y2 =>
  if decide ((Str.len y2) > 500) then
  some (Out.ret false)
  else
  XiU k a0 n (ad .i64 x1 1)
  else
  some (Out.brk x1)
def Xim (k : Nat) (a0 : Int) (a1 : Xay) : Nat → Int → Option (Out Bool Int)
 | 0, _ => none
 | n + 1, x2 =>
  (Sl.at? a1.Mods a0).bind fun y3 =>
  if decide (x2 < (Sl.len y3.Values)) then
  (Sl.at? a1.Mods a0).bind fun y4 =>
  (Sl.at? y4.Values x2).bind fun y5 =>
  if decide ((Str.len y5) > 500) then
  some (Out.ret false)
  else
  Xim k a0 a1 n (ad .i64 x2 1)
  else
  some (Out.brk x2)
def XiV (k : Nat) (a0 : Xay) : Nat → Int → Option (Out Bool Int)
 | 0, _ => none
 | n + 1, x1 =>
  if decide (x1 < (Sl.len a0.Mods)) then
  (Sl.at? a0.Mods x1).bind fun y2 =>
  (if decide ((Str.len y2.Attr) > 500) then
  some true
  else
  (Sl.at? a0.Mods x1).bind fun y3 =>
  some (decide ((Sl.len y3.Values) > 14))).bind fun y4 =>
  if y4 then
  some (Out.ret false)
  else
  (Xim k x1 a0 k 0).bind fun y5 =>
  match y5 with
  | .ret y5r => some (Out.ret y5r)
  | .brk y5b =>
  XiV k a0 n (ad .i64 x1 1)
  else
  some (Out.brk x1)
def F8 (k : Nat) (a0 : Xay) : Option Bool :=
 if (((((((decide ((Str.len a0.DN) > 500)) || (decide ((Str.len a0.Pass) > 500))) || (decide ((Str.len a0.RDN) > 500))) || (decide ((Str.len a0.Sup) > 500))) || (decide ((Str.len a0.Attr) > 500))) || (decide ((Str.len a0.Value) > 500))) || (decide ((Str.len a0.Matched) > 500))) || (decide ((Sl.len a0.Wants) > 14)) then
 some false
 else
 (XiU k a0 k 0).bind fun y1 =>
 match y1 with
 | .ret y1r => some y1r
 | .brk y1b =>
 (XiV k a0 k 0).bind fun y2 =>
 match y2 with
 | .ret y2r => some y2r
 | .brk y2b =>
 (if decide ((Sl.len a0.Mods) ≤ 14) then
 (F17 k a0.Filter 0).bind fun y3 =>
 some y3
 else
 some false).bind fun y4 =>
 some y4
theorem Xwg {k : Nat} {a2 : Xay} {S0 : List SObj} {R : List Nat} {K : KX} {i1 : Nat} (hi1 : S0.length ≤ i1)  {o : Out Bool Int}
  (hret : ∀ r : Bool, o = .ret r → EK [(2, (.bool r))] S0 R [] [] [] (K .ret))
  (hbrk : ∀ y : Int, o = .brk y → EK [(1, (.ptr i1 0))] S0 R [(i1, .cells (Xak a2))] [] [] (K (.exit 0))) :
  ∀ {n : Nat} {x3 : Int}, XiU k a2 n x3 = some o → ∀ {σ : Nat → PV} {S : List SObj}, Xa2 [(1, (.ptr i1 0)), (3, (.int .i64 x3))] σ → Hp S0 R S [(i1, .cells (Xak a2))] [] [] → WC env ⟨122, S0.length⟩ (.loop Xvw) σ S false K := by
 intro n
 induction n with
 | zero => intro _ h; cases h
 | succ n ih =>
  intro x3 h σ S  hk H
  rw [XiU] at h
  refine b_ <| X_ hk <| I_ <| B_ <| us 2 rfl <| Wg H 0 rfl <| Wl rfl <| us 1 rfl <| A_ ?_
  rcases Xa1 h with ⟨hc4, h⟩ | ⟨hc4, h⟩
  refine F_ rfl hc4 <| M_ <| C_ <| I_ <| R_ <| B_ <| us 1 rfl <| Wg H 0 rfl <| us 1 rfl ?_
  obtain ⟨y5, hy5, h⟩ := Xaf h
  refine Wx hy5 rfl rfl <| us 3 rfl <| A_ ?_
  rcases Xa1 h with ⟨hc6, h⟩ | ⟨hc6, h⟩
  refine F_ rfl hc6 <| B_ <| us 1 rfl <| A_ <| Q_ <| P_ <| H_ <| H_ ?_
  cases oi h
  exact hret _ rfl kn (H.sub (.cons _ .slnil) .slnil .slnil)
  refine G_ rfl hc6 <| M_ <| V_ <| C_ <| S_ <| us 3 rfl <| A_ <| C_ ?_
  exact ih h  kn (hs H)
  refine G_ rfl hc4 <| Y_ <| K_ <| K_ ?_
  cases oi h
  exact hbrk _ rfl  kn (hs H)
theorem Xwh {k : Nat} {a2 : Int} {a3 : Xay} {S0 : List SObj} {R : List Nat} {K : KX} {i1 : Nat} (hi1 : S0.length ≤ i1)  {o : Out Bool Int}
  (hret : ∀ r : Bool, o = .ret r → EK [(2, (.bool r))] S0 R [] [] [] (K .ret))
  (hbrk : ∀ y : Int, o = .brk y → EK [(1, (.ptr i1 0)), (4, (.int .i64 a2))] S0 R [(i1, .cells (Xak a3))] [] [] (K (.exit 4))) :
  ∀ {n : Nat} {x4 : Int}, Xim k a2 a3 n x4 = some o → ∀ {σ : Nat → PV} {S : List SObj}, Xa2 [(1, (.ptr i1 0)), (4, (.int .i64 a2)), (5, (.int .i64 x4))] σ → Hp S0 R S [(i1, .cells (Xak a3))] [] [] → WC env ⟨122, S0.length⟩ (.loop Xvx) σ S false K := by
 intro n
 induction n with
 | zero => intro _ h; cases h
 | succ n ih =>
  intro x4 h σ S  hk H
  rw [Xim] at h
  refine b_ <| X_ hk <| I_ <| B_ <| us 2 rfl <| Wg H 0 rfl <| us 1 rfl ?_
  obtain ⟨y5, hy5, h⟩ := Xaf h
  refine Wx hy5 (Xaz _) rfl <| us 2 rfl <| Wl rfl <| us 1 rfl <| A_ ?_
  rcases Xa1 h with ⟨hc6, h⟩ | ⟨hc6, h⟩
  refine F_ rfl hc6 <| M_ <| C_ <| I_ <| R_ <| B_ <| us 1 rfl <| Wg H 0 rfl <| us 1 rfl ?_
  obtain ⟨y7, hy7, h⟩ := Xaf h
  refine Wx hy7 (Xaz _) rfl <| us 3 rfl ?_
  obtain ⟨y8, hy8, h⟩ := Xaf h
  refine Wx hy8 rfl rfl <| us 3 rfl <| A_ ?_
  rcases Xa1 h with ⟨hc9, h⟩ | ⟨hc9, h⟩
  refine F_ rfl hc9 <| B_ <| us 1 rfl <| A_ <| Q_ <| P_ <| H_ <| H_ ?_
  cases oi h
  exact hret _ rfl kn (H.sub (.cons _ .slnil) .slnil .slnil)
  refine G_ rfl hc9 <| M_ <| V_ <| C_ <| S_ <| us 3 rfl <| A_ <| C_ ?_
  exact ih h  kn (hs H)
  refine G_ rfl hc6 <| Y_ <| K_ <| K_ ?_
  cases oi h
  exact hbrk _ rfl  kn (hs H)
theorem Xwi {k : Nat} {a2 : Xay} {S0 : List SObj} {R : List Nat} {K : KX} {i1 : Nat} (hi1 : S0.length ≤ i1)  {o : Out Bool Int}
  (hret : ∀ r : Bool, o = .ret r → EK [(2, (.bool r))] S0 R [] [] [] (K .ret))
  (hbrk : ∀ y : Int, o = .brk y → EK [(1, (.ptr i1 0))] S0 R [(i1, .cells (Xak a2))] [] [] (K (.exit 2))) :
  ∀ {n : Nat} {x3 : Int}, XiV k a2 n x3 = some o → ∀ {σ : Nat → PV} {S : List SObj}, Xa2 [(1, (.ptr i1 0)), (4, (.int .i64 x3))] σ → Hp S0 R S [(i1, .cells (Xak a2))] [] [] → WC env ⟨122, S0.length⟩ (.loop Xvy) σ S false K := by
 intro n
 induction n with
 | zero => intro _ h; cases h
 | succ n ih =>
  intro x3 h σ S  hk H
  rw [XiV] at h
  refine b_ <| X_ hk <| I_ <| B_ <| us 2 rfl <| Wg H 0 rfl <| Wl rfl <| us 1 rfl <| A_ ?_
  rcases Xa1 h with ⟨hc4, h⟩ | ⟨hc4, h⟩
  refine F_ rfl hc4 <| M_ <| C_ <| I_ <| R_ <| I_ <| B_ <| us 1 rfl <| Wg H 0 rfl <| us 1 rfl ?_
  obtain ⟨y5, hy5, h⟩ := Xaf h
  refine Wx hy5 (Xaz _) rfl <| us 3 rfl <| w (.bool (decide ((Str.len y5.Attr) > 500))) rfl rfl <| w (.bool (decide ((Str.len y5.Attr) > 500))) rfl rfl ?_
  obtain ⟨y6, hy6, hOy6⟩ := Xaf h
  refine O_ 9 (SJ [(1, (.ptr i1 0)), (4, (.int .i64 x3)), (90, (.bool y6))] S0 R [(i1, .cells (Xak a2))] [] [] false) ?_ ?_
  replace h := hy6
  revert H
  cases hc7 : (decide ((Str.len y5.Attr) > 500))
  intro H
  replace h := Xc5 h hc7
  refine us 1 rfl <| N_ rfl rfl <| Wg H 0 rfl <| us 1 rfl <| N_ rfl rfl ?_
  obtain ⟨y8, hy8, h⟩ := Xaf h
  refine Wx hy8 (Xaz _) rfl <| us 2 rfl <| N_ rfl rfl <| Wl rfl <| us 2 rfl <| A_ ?_
  cases oi h
  exact kh H
  intro H
  replace h := Xc4 h hc7
  refine us 9 rfl <| A_ ?_
  cases oi h
  exact kh H
  rintro σ S e ⟨hk, H, rfl⟩
  replace h := hOy6
  refine E_ hk <| A_ ?_
  rcases Xa1 h with ⟨hc9, h⟩ | ⟨hc9, h⟩
  refine F_ rfl hc9 <| B_ <| us 1 rfl <| A_ <| Q_ <| H_ <| P_ <| H_ <| H_ ?_
  cases oi h
  exact hret _ rfl kn (H.sub (.cons _ .slnil) .slnil .slnil)
  refine G_ rfl hc9 <| M_ <| C_ <| B_ <| us 1 rfl <| A_ ?_
  obtain ⟨y10, hy10, hOy10⟩ := Xaf h
  refine R_ ?_
  refine Xwh hi1 ?_ ?_ hy10  kn (hs H)
  intro y10r he σ S  hk H; subst he; replace h := hOy10; dsimp only at h
  refine J_ hk <| P_ <| P_ <| H_ <| H_ ?_
  cases oi h
  exact hret _ rfl kn (hs H)
  intro y10b he σ S  hk H; subst he; replace h := hOy10; dsimp only at h
  refine J_ hk <| U_ <| V_ <| C_ <| S_ <| us 3 rfl <| A_ <| C_ ?_
  exact ih h  kn (hs H)
  refine G_ rfl hc4 <| Y_ <| K_ <| K_ ?_
  cases oi h
  exact hbrk _ rfl  kn (hs H)
theorem s8 : ∀ k : Nat, ∀ {a0 : Xay} {r : Bool}, F8 k a0 = some r → Q 8 [(.agg (Xak a0))] (.bool r) := by
 intro k a0 r h
 unfold F8 at h
 refine Qg (pf := fn8) rfl cq rfl fun H => ?_
 refine B_ <| Wb H rfl ?_
 intro i1 S hi1 H
 refine us 1 rfl <| A_ <| I_ <| B_ <| us 1 rfl <| Wg H 0 rfl <| us 1 rfl <| w (.bool (decide ((Str.len a0.DN) > 500))) rfl rfl <| w (.bool (decide ((Str.len a0.DN) > 500))) rfl rfl ?_
 refine O_ 5 (SH H [(1, (.ptr i1 0)), (15, (.bool ((decide ((Str.len a0.DN) > 500)) || (decide ((Str.len a0.Pass) > 500)))))]) ?_ ?_
 revert H
 cases hc2 : (decide ((Str.len a0.DN) > 500))
 intro H
 refine us 1 rfl <| N_ rfl rfl <| Wg H 0 rfl <| us 3 rfl <| A_ ?_
 exact kf H
 intro H
 refine us 5 rfl <| A_ ?_
 exact kf H
 rintro σ S e ⟨hk, H, rfl⟩
 generalize ((decide ((Str.len a0.DN) > 500)) || (decide ((Str.len a0.Pass) > 500))) = p0 at hk h
 refine E_ hk <| w (.bool p0) rfl rfl ?_
 refine O_ 5 (SH H [(1, (.ptr i1 0)), (21, (.bool (p0 || (decide ((Str.len a0.RDN) > 500)))))]) ?_ ?_
 revert H
 cases hc3 : p0
 intro H
 refine us 1 rfl <| N_ rfl rfl <| Wg H 0 rfl <| us 3 rfl <| A_ ?_
 exact kf H
 intro H
 refine us 5 rfl <| A_ ?_
 exact kf H
 rintro σ S e ⟨hk, H, rfl⟩
 refine E_ hk <| w (.bool (p0 || (decide ((Str.len a0.RDN) > 500)))) rfl rfl ?_
 refine O_ 5 (SH H [(1, (.ptr i1 0)), (27, (.bool ((p0 || (decide ((Str.len a0.RDN) > 500))) || (decide ((Str.len a0.Sup) > 500)))))]) ?_ ?_
 revert H
 cases hc4 : (p0 || (decide ((Str.len a0.RDN) > 500)))
 intro H
 refine us 1 rfl <| N_ rfl rfl <| Wg H 0 rfl <| us 3 rfl <| A_ ?_
 exact kf H
 intro H
 refine us 5 rfl <| A_ ?_
 exact kf H
 rintro σ S e ⟨hk, H, rfl⟩
 generalize ((p0 || (decide ((Str.len a0.RDN) > 500))) || (decide ((Str.len a0.Sup) > 500))) = p1 at hk h
 refine E_ hk <| w (.bool p1) rfl rfl ?_
 refine O_ 5 (SH H [(1, (.ptr i1 0)), (33, (.bool (p1 || (decide ((Str.len a0.Attr) > 500)))))]) ?_ ?_
 revert H
 cases hc5 : p1
 intro H
 refine us 1 rfl <| N_ rfl rfl <| Wg H 0 rfl <| us 3 rfl <| A_ ?_
 exact kf H
 intro H
 refine us 5 rfl <| A_ ?_
 exact kf H
 rintro σ S e ⟨hk, H, rfl⟩
 refine E_ hk <| w (.bool (p1 || (decide ((Str.len a0.Attr) > 500)))) rfl rfl ?_
 refine O_ 5 (SH H [(1, (.ptr i1 0)), (39, (.bool ((p1 || (decide ((Str.len a0.Attr) > 500))) || (decide ((Str.len a0.Value) > 500)))))]) ?_ ?_
 revert H
 cases hc6 : (p1 || (decide ((Str.len a0.Attr) > 500)))
 intro H
 refine us 1 rfl <| N_ rfl rfl <| Wg H 0 rfl <| us 3 rfl <| A_ ?_
 exact kf H
 intro H
 refine us 5 rfl <| A_ ?_
 exact kf H
 rintro σ S e ⟨hk, H, rfl⟩
 generalize ((p1 || (decide ((Str.len a0.Attr) > 500))) || (decide ((Str.len a0.Value) > 500))) = p2 at hk h
 refine E_ hk <| w (.bool p2) rfl rfl ?_
 refine O_ 5 (SH H [(1, (.ptr i1 0)), (45, (.bool (p2 || (decide ((Str.len a0.Matched) > 500)))))]) ?_ ?_
 revert H
 cases hc7 : p2
 intro H
 refine us 1 rfl <| N_ rfl rfl <| Wg H 0 rfl <| us 3 rfl <| A_ ?_
 exact kf H
 intro H
 refine us 5 rfl <| A_ ?_
 exact kf H
 rintro σ S e ⟨hk, H, rfl⟩
 refine E_ hk <| w (.bool (p2 || (decide ((Str.len a0.Matched) > 500)))) rfl rfl ?_
 refine O_ 5 (SH H [(1, (.ptr i1 0)), (51, (.bool ((p2 || (decide ((Str.len a0.Matched) > 500))) || (decide ((Sl.len a0.Wants) > 14)))))]) ?_ ?_
 revert H
 cases hc8 : (p2 || (decide ((Str.len a0.Matched) > 500)))
 intro H
 refine us 1 rfl <| N_ rfl rfl <| Wg H 0 rfl <| N_ rfl rfl <| Wl rfl <| us 2 rfl <| A_ ?_
 exact kf H
 intro H
 refine us 5 rfl <| A_ ?_
 exact kf H
 rintro σ S e ⟨hk, H, rfl⟩
 refine E_ hk <| A_ ?_
 rcases Xa1 h with ⟨hc9, h⟩ | ⟨hc9, h⟩
 refine F_ rfl hc9 <| B_ <| us 1 rfl <| A_ <| Q_ <| H_ ?_
 have h := oi h; subst h
 exact Kr (.bool false) rfl rfl
 refine G_ rfl hc9 <| M_ <| C_ <| I_ <| B_ <| us 1 rfl <| A_ ?_
 obtain ⟨y10, hy10, hOy10⟩ := Xaf h
 refine R_ ?_
 refine Xwg hi1 ?_ ?_ hy10  kn (hs H)
 intro y10r he σ S  hk H; subst he; replace h := hOy10; dsimp only at h
 refine J_ hk <| P_ <| H_ ?_
 have h := oi h; subst h
 exact Kr (.bool y10r) rfl rfl
 intro y10b he σ S  hk H; subst he; replace h := hOy10; dsimp only at h
 refine J_ hk <| U_ <| C_ <| I_ <| B_ <| us 1 rfl <| A_ ?_
 obtain ⟨y11, hy11, hOy11⟩ := Xaf h
 refine R_ ?_
 refine Xwi hi1 ?_ ?_ hy11  kn (hs H)
 intro y11r he σ S  hk H; subst he; replace h := hOy11; dsimp only at h
 refine J_ hk <| P_ <| H_ ?_
 have h := oi h; subst h
 exact Kr (.bool y11r) rfl rfl
 intro y11b he σ S  hk H; subst he; replace h := hOy11; dsimp only at h
 refine J_ hk <| U_ <| C_ <| B_ <| us 1 rfl <| Wg H 0 rfl <| Wl rfl <| w (.bool (decide ((Sl.len a0.Mods) ≤ 14))) rfl rfl <| w (.bool (decide ((Sl.len a0.Mods) ≤ 14))) rfl rfl ?_
 obtain ⟨y12, hy12, hOy12⟩ := Xaf h
 refine O_ 4 (SJ [(121, (.bool y12))] [] [] [(i1, .cells (Xak a0))] [] [] false) ?_ ?_
 replace h := hy12
 revert H
 cases hc13 : (decide ((Sl.len a0.Mods) ≤ 14))
 intro H
 replace h := Xc5 h hc13
 refine us 4 rfl <| A_ ?_
 have h := oi h; subst h
 exact kh H
 intro H
 replace h := Xc4 h hc13
 refine us 1 rfl <| N_ rfl rfl <| Wg H 0 rfl <| N_ rfl rfl ?_
 obtain ⟨y14, hy14, h⟩ := Xaf h
 refine Cl (.bool y14) [(.agg (Xag a0.Filter)), (.int .i64 0)] rfl rfl (sv (s17 _ hy14)) <| us 1 rfl <| A_ ?_
 have h := oi h; subst h
 exact kh H
 rintro σ S e ⟨hk, H, rfl⟩
 replace h := hOy12
 refine E_ hk <| us 1 rfl <| A_ <| Q_ ?_
 have h := oi h; subst h
 exact Kr (.bool y12) rfl rfl
def F30 (k : Nat) (a0 : Xay) : Option Xay :=
 (if a0.Op == 1 then
 some (Xay.mk a0.ID a0.Op 0 a0.DN a0.Version a0.Pass 0 0 (Xae.mk 0 [] [] none none) none none [] false false [] [] [] 0 [])
 else
 if a0.Op == 3 then
 some (Xay.mk a0.ID a0.Op 0 a0.DN 0 [] a0.Scope a0.Size a0.Filter a0.Wants none [] false false [] [] [] 0 [])
 else
 (if a0.Op == 4 then
 some (a0.Op == 4)
 else
 (if a0.Op == 5 then
 some (a0.Op == 5)
 else
 some (a0.Op == 10)).bind fun y1 =>
 some y1).bind fun y2 =>
 if y2 then
 some (Xay.mk a0.ID a0.Op 0 a0.DN 0 [] 0 0 (Xae.mk 0 [] [] none none) none a0.Mods [] false false [] [] [] 0 [])
 else
 if a0.Op == 6 then
 some (Xay.mk a0.ID a0.Op 0 a0.DN 0 [] 0 0 (Xae.mk 0 [] [] none none) none none [] false false [] [] [] 0 [])
 else
 if a0.Op == 7 then
 (if a0.HasSup then
 some (Xay.mk a0.ID a0.Op 0 a0.DN 0 [] 0 0 (Xae.mk 0 [] [] none none) none none a0.RDN a0.DelOld a0.HasSup a0.Sup [] [] 0 [])
 else
 some (Xay.mk a0.ID a0.Op 0 a0.DN 0 [] 0 0 (Xae.mk 0 [] [] none none) none none a0.RDN a0.DelOld a0.HasSup [] [] [] 0 [])).bind fun y3 =>
 some y3
 else
 if a0.Op == 8 then
 some (Xay.mk a0.ID a0.Op 0 a0.DN 0 [] 0 0 (Xae.mk 0 [] [] none none) none none [] false false [] a0.Attr a0.Value 0 [])
 else
 if a0.Op == 9 then
 some (Xay.mk a0.ID a0.Op a0.Of [] 0 [] 0 0 (Xae.mk 0 [] [] none none) none none [] false false [] [] [] a0.Code a0.Matched)
 else
 some (Xay.mk a0.ID a0.Op 0 [] 0 [] 0 0 (Xae.mk 0 [] [] none none) none none [] false false [] [] [] 0 [])).bind fun y4 =>
 some y4
theorem s30 : ∀ k : Nat, ∀ {a0 : Xay} {r : Xay}, F30 k a0 = some r → Q 30 [(.agg (Xak a0))] (.agg (Xak r)) := by
 intro k a0 r h vs ha S
 unfold F30 at h
 refine e_ (pf := Xtz) rfl rfl ha (D_ rfl) cq cq ?_
 refine o_ (pf := Xtz) rfl ?_
 have H := g_ []
 refine B_ <| Wb H rfl ?_
 intro i1 S hi1 H
 refine Wa (ti := XgD) H rfl ?_
 intro i2 S hi2 H
 refine A_ <| B_ <| us 1 rfl <| Wg H 1 rfl <| us 1 rfl <| Wg H 1 rfl <| w (.agg [(.int .i64 a0.ID), (.int .i64 a0.Op), (.int .i64 0), (.str []), (.int .i64 0), (.str []), (.int .i64 0), (.int .i64 0), (.int .i64 0), (.str []), (.str []), .nils, .nils, .nils, .nils, (.str []), (.bool false), (.bool false), (.str []), (.str []), (.str []), (.int .i64 0), (.str [])]) rfl (nz rfl (XaH (ti := XgD) rfl rfl rfl rfl rfl (Xav rfl rfl rfl rfl (D_ rfl) rfl (Xav rfl rfl rfl rfl (D_ rfl) rfl rfl)))) <| Wa (ti := XgD) H rfl ?_
 intro i3 S hi3 H
 refine Ws 0 H hi3 rfl ?_
 intro S H
 refine A_ <| I_ <| B_ <| us 1 rfl <| Wg H 2 rfl <| A_ ?_
 obtain ⟨y4, hy4, hOy4⟩ := Xaf h
 refine a_ (fun σ' S' e' => ∃ v5, ∃ v6, ∃ v7, ∃ v8, Xa8 eS y4.Filter.Subs v5 ∧ Xa8 Xan y4.Filter.Kids v6 ∧ Xa8 eS y4.Wants v7 ∧ Xa8 Xao y4.Mods v8 ∧ Xa2 ([(2, (.ptr i2 0)), (3, (.ptr i3 0))]) σ' ∧ Hp [] [] S' [(i3, .cells (XaO y4 v5 v6 v7 v8)), (i2, .cells z0_), (i1, .cells (Xak a0))] [] [] ∧ e' = false) ?_ ?_
 replace h := hy4
 refine R_ <| I_ <| R_ <| I_ <| R_ <| I_ <| R_ <| I_ <| R_ <| I_ <| R_ <| I_ <| R_ <| I_ <| R_ <| I_ <| I_ <| B_ <| us 2 rfl <| A_ ?_
 rcases Xa1 h with ⟨hc9, h⟩ | ⟨hc9, h⟩
 refine F_ rfl hc9 <| Y_ <| K_ <| K_ <| U_ <| C_ <| I_ <| j_ <| wk _ rfl rfl rfl rfl <| wkl H 2 rfl rfl rfl rfl <| wk _ rfl rfl rfl rfl <| wkl H 2 rfl rfl rfl rfl <| wk _ rfl rfl rfl rfl <| wkl H 2 rfl rfl rfl rfl <| wk _ rfl rfl rfl rfl ?_
 have Hh12397 := H
 refine Wsk 0 H hi3 rfl ?_
 intro S H
 refine ⟨(Xah (ld (H.get 2 rfl) rfl) (Xah (ld (H.get 2 rfl) rfl) (Xah (ld (H.get 2 rfl) rfl) Xa9))), ?_⟩
 refine wk _ rfl rfl rfl rfl ?_
 have Hh12398 := H
 refine Wsk 0 H hi3 rfl ?_
 intro S H
 refine ⟨(Xah (ld (H.get 2 rfl) rfl) (Xah (ld (H.get 2 rfl) rfl) (Xah (ld (H.get 2 rfl) rfl) Xa9))), ?_⟩
 refine WK.nil <| us 1 rfl <| Ws 0 H hi3 rfl ?_
 intro S H
 refine A_ <| C_ <| Y_ <| W_ rfl <| K_ <| W_ rfl <| K_ <| W_ rfl <| K_ <| W_ rfl <| K_ <| W_ rfl <| K_ <| W_ rfl <| K_ <| U_ <| C_ ?_
 have h := oi h; subst h
 exact ⟨.nils, .nils, .nils, .nils, (Xam _), (Xam _), (Xam _), (Xam _), kn, (hs H), rfl⟩
 refine G_ rfl hc9 <| M_ <| C_ <| I_ <| B_ <| us 2 rfl <| A_ ?_
 rcases Xa1 h with ⟨hc10, h⟩ | ⟨hc10, h⟩
 refine F_ rfl hc10 <| Y_ <| K_ <| K_ <| W_ rfl <| K_ <| U_ <| C_ <| I_ <| j_ <| wk _ rfl rfl rfl rfl <| wkl H 2 rfl rfl rfl rfl <| wk _ rfl rfl rfl rfl <| wkl H 2 rfl rfl rfl rfl <| wk _ rfl rfl rfl rfl <| wkl H 2 rfl rfl rfl rfl <| wk _ rfl rfl rfl rfl <| wkl H 2 rfl rfl rfl rfl <| wk _ rfl rfl rfl rfl <| wkl H 2 rfl rfl rfl rfl <| wk _ rfl rfl rfl rfl ?_
 have Hh12400 := H
 refine Wsk 0 H hi3 rfl ?_
 intro S H
 refine ⟨(Xah (ld (H.get 2 rfl) rfl) (Xah (ld (H.get 2 rfl) rfl) (Xah (ld (H.get 2 rfl) rfl) (Xah (ld (H.get 2 rfl) rfl) (Xah (ld (H.get 2 rfl) rfl) Xa9))))), ?_⟩
 refine wk _ rfl rfl rfl rfl ?_
 have Hh12401 := H
 refine Wsk 0 H hi3 rfl ?_
 intro S H
 refine ⟨(Xah (ld (H.get 2 rfl) rfl) (Xah (ld (H.get 2 rfl) rfl) (Xah (ld (H.get 2 rfl) rfl) (Xah (ld (H.get 2 rfl) rfl) (Xah (ld (H.get 2 rfl) rfl) Xa9))))), ?_⟩
 refine wk _ rfl rfl rfl rfl ?_
 have Hh12402 := H
 refine Wsk 0 H hi3 rfl ?_
 intro S H
 refine ⟨(Xah (ld (H.get 2 rfl) rfl) (Xah (ld (H.get 2 rfl) rfl) (Xah (ld (H.get 2 rfl) rfl) (Xah (ld (H.get 2 rfl) rfl) (Xah (ld (H.get 2 rfl) rfl) Xa9))))), ?_⟩
 refine wk _ rfl rfl rfl rfl ?_
 have Hh12403 := H
 refine Wsk 0 H hi3 rfl ?_
 intro S H
 refine ⟨(Xah (ld (H.get 2 rfl) rfl) (Xah (ld (H.get 2 rfl) rfl) (Xah (ld (H.get 2 rfl) rfl) (Xah (ld (H.get 2 rfl) rfl) (Xah (ld (H.get 2 rfl) rfl) Xa9))))), ?_⟩
 refine WK.nil <| us 1 rfl <| WO.store 0 rfl (fe rfl rfl) H rfl rfl rfl rfl (c_ _ _).one.1 (c_ _ _).one.2 rfl (D_ rfl) rfl (XeQ hi3) ?_
 intro S H
 refine A_ <| C_ <| Y_ <| W_ rfl <| K_ <| W_ rfl <| K_ <| W_ rfl <| K_ <| W_ rfl <| K_ <| W_ rfl <| K_ <| U_ <| C_ ?_
 have h := oi h; subst h
 exact ⟨(Xar eS a0.Filter.Subs), (Xar Xan a0.Filter.Kids), (Xar eS a0.Wants), .nils, (c_ _ _), (c_ _ _), (c_ _ _), (Xam _), kn, (hs H), rfl⟩
 refine G_ rfl hc10 <| M_ <| C_ <| I_ <| I_ <| B_ <| us 2 rfl <| A_ ?_
 obtain ⟨y11, hy11, hOy11⟩ := Xaf h
 refine a_ (SJ [(1, (.ptr i1 0)), (2, (.ptr i2 0)), (3, (.ptr i3 0)), (10, (.int .i64 a0.Op)), (15, (.bool y11))] [] [] [(i3, .cells [(.int .i64 a0.ID), (.int .i64 a0.Op), (.int .i64 0), (.str []), (.int .i64 0), (.str []), (.int .i64 0), (.int .i64 0), (.int .i64 0), (.str []), (.str []), .nils, .nils, .nils, .nils, (.str []), (.bool false), (.bool false), (.str []), (.str []), (.str []), (.int .i64 0), (.str [])]), (i2, .cells z0_), (i1, .cells (Xak a0))] [] [] false) ?_ ?_
 replace h := hy11
 rcases Xa1 h with ⟨hc12, h⟩ | ⟨hc12, h⟩
 refine F_ rfl hc12 <| M_ <| C_ ?_
 have h := oi h; subst h
 exact kh H
 refine G_ rfl hc12 <| B_ <| us 2 rfl <| A_ ?_
 obtain ⟨y13, hy13, hOy13⟩ := Xaf h
 refine a_ (SJ [(1, (.ptr i1 0)), (2, (.ptr i2 0)), (3, (.ptr i3 0)), (10, (.int .i64 a0.Op)), (15, (.bool y13))] [] [] [(i3, .cells [(.int .i64 a0.ID), (.int .i64 a0.Op), (.int .i64 0), (.str []), (.int .i64 0), (.str []), (.int .i64 0), (.int .i64 0), (.int .i64 0), (.str []), (.str []), .nils, .nils, .nils, .nils, (.str []), (.bool false), (.bool false), (.str []), (.str []), (.str []), (.int .i64 0), (.str [])]), (i2, .cells z0_), (i1, .cells (Xak a0))] [] [] false) ?_ ?_
 replace h := hy13
 rcases Xa1 h with ⟨hc14, h⟩ | ⟨hc14, h⟩
 refine F_ rfl hc14 <| M_ <| C_ ?_
 have h := oi h; subst h
 exact kh H
 refine G_ rfl hc14 <| S_ <| us 2 rfl <| A_ <| C_ ?_
 have h := oi h; subst h
 exact kh H
 rintro σ S e ⟨hk, H, rfl⟩
 replace h := hOy13
 refine J_ hk <| C_ ?_
 have h := oi h; subst h
 exact kh H
 rintro σ S e ⟨hk, H, rfl⟩
 replace h := hOy11
 refine J_ hk <| C_ ?_
 rcases Xa1 h with ⟨hc15, h⟩ | ⟨hc15, h⟩
 refine F_ rfl hc15 <| Y_ <| K_ <| K_ <| W_ rfl <| K_ <| W_ rfl <| K_ <| U_ <| C_ <| S_ <| us 1 rfl <| Wg H 2 rfl <| us 1 rfl <| WO.store 0 rfl (fe rfl rfl) H rfl rfl rfl rfl (c_ _ _).one.1 (c_ _ _).one.2 rfl (D_ rfl) rfl (XeQ hi3) ?_
 intro S H
 refine A_ <| V_ <| C_ <| B_ <| us 1 rfl <| Wg H 2 rfl <| us 1 rfl <| Ws 0 H hi3 rfl ?_
 intro S H
 refine A_ <| Y_ <| W_ rfl <| K_ <| W_ rfl <| K_ <| W_ rfl <| K_ <| U_ <| C_ ?_
 have h := oi h; subst h
 exact ⟨.nils, .nils, .nils, (Xar Xao a0.Mods), (Xam _), (Xam _), (Xam _), (c_ _ _), kn, (hs H), rfl⟩
 refine G_ rfl hc15 <| M_ <| C_ <| I_ <| B_ <| us 2 rfl <| A_ ?_
 rcases Xa1 h with ⟨hc16, h⟩ | ⟨hc16, h⟩
 refine F_ rfl hc16 <| Y_ <| K_ <| K_ <| W_ rfl <| K_ <| W_ rfl <| K_ <| W_ rfl <| K_ <| U_ <| C_ <| B_ <| us 1 rfl <| Wg H 2 rfl <| us 1 rfl <| Ws 0 H hi3 rfl ?_
 intro S H
 refine A_ <| Y_ <| W_ rfl <| K_ <| W_ rfl <| K_ <| W_ rfl <| K_ <| U_ <| C_ ?_
 have h := oi h; subst h
 exact ⟨.nils, .nils, .nils, .nils, (Xam _), (Xam _), (Xam _), (Xam _), kn, (hs H), rfl⟩
 refine G_ rfl hc16 <| M_ <| C_ <| I_ <| B_ <| us 2 rfl <| A_ ?_
 rcases Xa1 h with ⟨hc17, h⟩ | ⟨hc17, h⟩
 refine F_ rfl hc17 <| Y_ <| K_ <| K_ <| W_ rfl <| K_ <| W_ rfl <| K_ <| W_ rfl <| K_ <| W_ rfl <| K_ <| U_ <| C_ <| I_ <| I_ <| j_ <| wk _ rfl rfl rfl rfl <| wkl H 2 rfl rfl rfl rfl <| wk _ rfl rfl rfl rfl <| wkl H 2 rfl rfl rfl rfl <| wk _ rfl rfl rfl rfl <| wkl H 2 rfl rfl rfl rfl <| wk _ rfl rfl rfl rfl <| wkl H 2 rfl rfl rfl rfl <| wk _ rfl rfl rfl rfl ?_
 have Hh12423 := H
 refine Wsk 0 H hi3 rfl ?_
 intro S H
 refine ⟨(Xah (ld (H.get 2 rfl) rfl) (Xah (ld (H.get 2 rfl) rfl) (Xah (ld (H.get 2 rfl) rfl) (Xah (ld (H.get 2 rfl) rfl) Xa9)))), ?_⟩
 refine wk _ rfl rfl rfl rfl ?_
 have Hh12424 := H
 refine Wsk 0 H hi3 rfl ?_
 intro S H
 refine ⟨(Xah (ld (H.get 2 rfl) rfl) (Xah (ld (H.get 2 rfl) rfl) (Xah (ld (H.get 2 rfl) rfl) (Xah (ld (H.get 2 rfl) rfl) Xa9)))), ?_⟩
 refine wk _ rfl rfl rfl rfl ?_
 have Hh12425 := H
 refine Wsk 0 H hi3 rfl ?_
 intro S H
 refine ⟨(Xah (ld (H.get 2 rfl) rfl) (Xah (ld (H.get 2 rfl) rfl) (Xah (ld (H.get 2 rfl) rfl) (Xah (ld (H.get 2 rfl) rfl) Xa9)))), ?_⟩
 refine WK.nil <| us 1 rfl <| Ws 0 H hi3 rfl ?_
 intro S H
 refine A_ <| C_ <| B_ <| us 1 rfl <| Wg H 2 rfl <| A_ ?_
 obtain ⟨y18, hy18, hOy18⟩ := Xaf h
 refine a_ (fun σ' S' e' => ∃ v19, ∃ v20, ∃ v21, ∃ v22, Xa8 eS y18.Filter.Subs v19 ∧ Xa8 Xan y18.Filter.Kids v20 ∧ Xa8 eS y18.Wants v21 ∧ Xa8 Xao y18.Mods v22 ∧ Xa2 ([(2, (.ptr i2 0)), (3, (.ptr i3 0))]) σ' ∧ Hp [] [] S' [(i3, .cells (XaO y18 v19 v20 v21 v22)), (i2, .cells z0_), (i1, .cells (Xak a0))] [] [] ∧ e' = false) ?_ ?_
 replace h := hy18
 rcases Xa1 h with ⟨hc23, h⟩ | ⟨hc23, h⟩
 refine F_ rfl hc23 <| S_ <| us 1 rfl <| Wg H 2 rfl <| us 1 rfl <| Ws 0 H hi3 rfl ?_
 intro S H
 refine A_ <| C_ ?_
 have h := oi h; subst h
 exact ⟨.nils, .nils, .nils, .nils, (Xam _), (Xam _), (Xam _), (Xam _), kn, (hs H), rfl⟩
 refine G_ rfl hc23 <| M_ <| C_ ?_
 have h := oi h; subst h
 exact ⟨.nils, .nils, .nils, .nils, (Xam _), (Xam _), (Xam _), (Xam _), kn, (hs H), rfl⟩
 rintro σ S e ⟨v19, v20, v21, v22, hv19, hv20, hv21, hv22, hk, H, rfl⟩
 replace h := hOy18
 refine J_ hk <| C_ <| Y_ <| W_ rfl <| K_ <| W_ rfl <| K_ <| U_ <| C_ ?_
 have h := oi h; subst h
 exact ⟨v19, v20, v21, v22, hv19, hv20, hv21, hv22, kn, (hs H), rfl⟩
 refine G_ rfl hc17 <| M_ <| C_ <| I_ <| B_ <| us 2 rfl <| A_ ?_
 rcases Xa1 h with ⟨hc24, h⟩ | ⟨hc24, h⟩
 refine F_ rfl hc24 <| Y_ <| K_ <| K_ <| W_ rfl <| K_ <| W_ rfl <| K_ <| W_ rfl <| K_ <| W_ rfl <| K_ <| W_ rfl <| K_ <| U_ <| C_ <| I_ <| j_ <| wk _ rfl rfl rfl rfl <| wkl H 2 rfl rfl rfl rfl <| wk _ rfl rfl rfl rfl <| wkl H 2 rfl rfl rfl rfl <| wk _ rfl rfl rfl rfl <| wkl H 2 rfl rfl rfl rfl <| wk _ rfl rfl rfl rfl ?_
 have Hh12435 := H
 refine Wsk 0 H hi3 rfl ?_
 intro S H
 refine ⟨(Xah (ld (H.get 2 rfl) rfl) (Xah (ld (H.get 2 rfl) rfl) (Xah (ld (H.get 2 rfl) rfl) Xa9))), ?_⟩
 refine wk _ rfl rfl rfl rfl ?_
 have Hh12436 := H
 refine Wsk 0 H hi3 rfl ?_
 intro S H
 refine ⟨(Xah (ld (H.get 2 rfl) rfl) (Xah (ld (H.get 2 rfl) rfl) (Xah (ld (H.get 2 rfl) rfl) Xa9))), ?_⟩
 refine WK.nil <| us 1 rfl <| Ws 0 H hi3 rfl ?_
 intro S H
 refine A_ <| C_ <| Y_ <| W_ rfl <| K_ <| U_ <| C_ ?_
 have h := oi h; subst h
 exact ⟨.nils, .nils, .nils, .nils, (Xam _), (Xam _), (Xam _), (Xam _), kn, (hs H), rfl⟩
 refine G_ rfl hc24 <| M_ <| C_ <| B_ <| us 2 rfl <| A_ ?_
 rcases Xa1 h with ⟨hc25, h⟩ | ⟨hc25, h⟩
 refine F_ rfl hc25 <| Y_ <| K_ <| W_ rfl <| K_ <| W_ rfl <| K_ <| W_ rfl <| K_ <| W_ rfl <| K_ <| W_ rfl <| K_ <| W_ rfl <| K_ <| U_ <| C_ <| I_ <| j_ <| wk _ rfl rfl rfl rfl <| wkl H 2 rfl rfl rfl rfl <| wk _ rfl rfl rfl rfl <| wkl H 2 rfl rfl rfl rfl <| wk _ rfl rfl rfl rfl <| wkl H 2 rfl rfl rfl rfl <| wk _ rfl rfl rfl rfl ?_
 have Hh12438 := H
 refine Wsk 0 H hi3 rfl ?_
 intro S H
 refine ⟨(Xah (ld (H.get 2 rfl) rfl) (Xah (ld (H.get 2 rfl) rfl) (Xah (ld (H.get 2 rfl) rfl) Xa9))), ?_⟩
 refine wk _ rfl rfl rfl rfl ?_
 have Hh12439 := H
 refine Wsk 0 H hi3 rfl ?_
 intro S H
 refine ⟨(Xah (ld (H.get 2 rfl) rfl) (Xah (ld (H.get 2 rfl) rfl) (Xah (ld (H.get 2 rfl) rfl) Xa9))), ?_⟩
 refine WK.nil <| us 1 rfl <| Ws 0 H hi3 rfl ?_
 intro S H
 refine A_ <| C_ <| Y_ <| U_ <| C_ ?_
 have h := oi h; subst h
 exact ⟨.nils, .nils, .nils, .nils, (Xam _), (Xam _), (Xam _), (Xam _), kn, (hs H), rfl⟩
 refine G_ rfl hc25 <| M_ <| C_ <| Y_ <| W_ rfl <| K_ <| W_ rfl <| K_ <| W_ rfl <| K_ <| W_ rfl <| K_ <| W_ rfl <| K_ <| W_ rfl <| K_ <| W_ rfl <| K_ <| U_ <| C_ ?_
 have h := oi h; subst h
 exact ⟨.nils, .nils, .nils, .nils, (Xam _), (Xam _), (Xam _), (Xam _), kn, (hs H), rfl⟩
 rintro σ S e ⟨v5, v6, v7, v8, hv5, hv6, hv7, hv8, hk, H, rfl⟩
 replace h := hOy4
 refine J_ hk <| C_ <| B_ <| Wg H 0 rfl <| Ws 1 H hi2 rfl ?_
 intro S H
 refine A_ <| Q_ ?_
 have h := oi h; subst h
 refine Z_ (vs := [(.agg (XaO y4 v5 v6 v7 v8))]) (Xa0 rfl (H.get 1 rfl) rfl Xas) (L_ rfl rfl) ?_
 exact (by simp only [Xa7, List.map_cons, List.map_nil, Xal, Xax, Xap, Xaq, hv5.strip1, hv6.strip1, hv7.strip1, hv8.strip1, XbN, XbH, Xak])
end Go.Proofs.YtbinlabnilidiaaGreatDoor.M
