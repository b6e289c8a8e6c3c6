/- Part of the proof: the runs of functions on the abstract machine. -/
import Derived.Test.YtbinlabnilidiaaGreatDoorPamM4
import Derived.Test.YtbinlabnilidiaaGreatDoorFns
import Derived.Test.YtbinlabnilidiaaGreatDoorMDe
import Derived.Test.YtbinlabnilidiaaGreatDoorMDc
import Derived.Test.YtbinlabnilidiaaGreatDoorMDc1
import Derived.Test.YtbinlabnilidiaaGreatDoorMDr
import Derived.Test.YtbinlabnilidiaaGreatDoorMDr1
namespace Go.Proofs.YtbinlabnilidiaaGreatDoor.M
open Go Go.Pam Go.RowKit Go.WideShapes
set_option maxRecDepth 8000
set_option linter.unusedVariables false
set_option linter.unusedSimpArgs false
def Xec (k : Nat) : Nat → (Sl Int) → Int → Option ((Sl Int) × Int)
 | 0, _, _ => none
 | n + 1, x0, x2 =>
  (if x2 == 0 then
  (Sl.at? x0 0).bind fun y3 =>
  some (decide (y3 < 128))
  else
  some false).bind fun y4 =>
  (if y4 then
  some true
  else
  (if x2 == (-1) then
  (Sl.at? x0 0).bind fun y5 =>
  some (decide (y5 ≥ 128))
  else
  some false).bind fun y6 =>
  some y6).bind fun y7 =>
  if !y7 then
  (Sl.app? 1 (some [cv .u8 x2]) (Sl.l x0)).bind fun z8 =>
  (Xln .i64 x2 8).bind fun z9 =>
  Xec k n z8 z9
  else
  some (x0, x2)
def F83 (k : Nat) (a0 : Int) : Option Str :=
 (Xln .i64 a0 8).bind fun z2 =>
 (Xec k k (some [cv .u8 a0]) z2).bind fun y1 =>
 some (Str.of y1.1)
theorem XsG {k : Nat} {S0 : List SObj} {R : List Nat} {K : KX}  {o : ((Sl Int) × Int)}
  (hbrk : ∀ {σ' : Nat → PV} {S' : List SObj}, ∀ (v1 : PV) (_ : Xa8 (eI .u8) o.1 v1), Xa2 [(3, v1)] σ' → Hp S0 R S' [] [] [] → K (.exit 0) σ' S' false) :
  ∀ {n : Nat} {x2 : Sl Int} {x3 : Int}, Xec k n x2 x3 = some o → ∀ {σ : Nat → PV} {S : List SObj}, ∀ (v4 : PV) (_ : Xa8 (eI .u8) x2 v4), Xa2 [(3, v4), (4, (.int .i64 x3))] σ → Hp S0 R S [] [] [] → WC env ⟨38, S0.length⟩ (.loop Xr8) σ S false K := by
 intro n
 induction n with
 | zero => intro _ _ h; cases h
 | succ n ih =>
  intro x2 x3 h σ S v4 hv4 hk H
  rw [Xec] at h
  refine b_ <| X_ hk <| I_ <| B_ <| us 1 rfl <| w (.bool (x3 == 0)) rfl rfl <| w (.bool (x3 == 0)) rfl rfl ?_
  obtain ⟨y6, hy6, hOy6⟩ := Xaf h
  refine O_ 5 (SJ [(3, v4), (4, (.int .i64 x3)), (17, (.bool y6))] S0 R [] [] [] false) ?_ ?_
  replace h := hy6
  revert H
  cases hc7 : (x3 == 0)
  intro H
  replace h := Xc5 h hc7
  refine us 5 rfl <| A_ ?_
  cases oi h
  exact kh H
  intro H
  replace h := Xc4 h hc7
  refine N_ rfl rfl <| w v4 rfl rfl <| N_ rfl rfl ?_
  obtain ⟨y8, hy8, h⟩ := Xaf h
  refine w (.iptr [(.int .u8 y8)] 0) rfl (nz rfl (Xbv rfl hv4 rfl rfl rfl hy8 rfl rfl)) <| us 3 rfl <| A_ ?_
  cases oi h
  exact kh H
  rintro σ S e ⟨hk, H, rfl⟩
  replace h := hOy6
  refine E_ hk <| us 1 rfl ?_
  obtain ⟨y9, hy9, hOy9⟩ := Xaf h
  refine O_ 9 (SJ [(3, v4), (4, (.int .i64 x3)), (27, (.bool y9))] S0 R [] [] [] false) ?_ ?_
  replace h := hy9
  revert H
  cases hc10 : y6
  intro H
  replace h := Xc5 h hc10
  refine us 1 rfl <| N_ rfl rfl <| w (.bool (x3 == (-1))) rfl rfl <| N_ rfl rfl <| w (.bool (x3 == (-1))) rfl rfl ?_
  obtain ⟨y11, hy11, hOy11⟩ := Xaf h
  refine O_ 5 (SJ [(3, v4), (4, (.int .i64 x3)), (18, (.bool false)), (26, (.bool y11))] S0 R [] [] [] false) ?_ ?_
  replace h := hy11
  revert H
  cases hc12 : (x3 == (-1))
  intro H
  replace h := Xc5 h hc12
  refine us 5 rfl <| A_ ?_
  cases oi h
  exact kh H
  intro H
  replace h := Xc4 h hc12
  refine N_ rfl rfl <| w v4 rfl rfl <| N_ rfl rfl ?_
  obtain ⟨y13, hy13, h⟩ := Xaf h
  refine w (.iptr [(.int .u8 y13)] 0) rfl (nz rfl (Xbv rfl hv4 rfl rfl rfl hy13 rfl rfl)) <| us 3 rfl <| A_ ?_
  cases oi h
  exact kh H
  rintro σ S e ⟨hk, H, rfl⟩
  replace h := hOy11
  refine E_ hk <| us 1 rfl <| A_ ?_
  cases oi h
  exact kh H
  intro H
  replace h := Xc4 h hc10
  refine us 3 rfl <| l_ rfl rfl <| l_ rfl rfl <| l_ rfl rfl <| l_ rfl rfl <| us 2 rfl <| A_ ?_
  cases oi h
  exact kh H
  rintro σ S e ⟨hk, H, rfl⟩
  replace h := hOy9
  refine E_ hk <| us 1 rfl <| A_ ?_
  rcases Xa1 h with ⟨hc14, h⟩ | ⟨hc14, h⟩
  refine F_ rfl hc14 <| M_ <| C_ <| R_ <| B_ <| us 2 rfl <| WS rfl (nz rfl (Xaj (ys := [cv .u8 x3]) (f := (eI .u8)) (parts := [(0, (.int .u8 (cv .u8 x3)))]) rfl rfl rfl rfl rfl rfl (fc ⟨rfl, rfl⟩ (fun p hp => nomatch hp)) rfl)) ?_
  have hv15 : Xa8 (eI .u8) (some [cv .u8 x3]) _ := ⟨.full, rfl⟩
  refine w v4 rfl rfl ?_
  obtain ⟨z16, hz16, h⟩ := Xaf h
  have H := H.addFull (List.map (eI .u8) [cv .u8 x3]) 1 (Xcv (f := (eI .u8)) (fun _ => rfl) _)
  refine WO.ex rfl (nzx (Xaw hv4.frz rfl) (Xb0 (f := (eI .u8)) (ei := ty5) H 0 rfl rfl hv15 rfl hv4 rfl rfl rfl rfl (fun _ => rfl) hz16)) ?_
  rintro v17 S ⟨hv17, H⟩
  refine w v17 rfl rfl <| A_ <| S_ <| us 1 rfl ?_
  obtain ⟨z18, hz18, h⟩ := Xaf h
  refine w (.int .i64 z18) rfl (nz rfl (XfU rfl rfl hz18)) <| us 1 rfl <| A_ <| V_ <| C_ ?_
  exact ih h v17 (hv17) kn (H.sub .slnil (.cons _ .slnil) .slnil)
  refine G_ rfl hc14 <| Y_ <| K_ <| K_ ?_
  cases oi h
  exact hbrk v4 (hv4) kn (hs H)
theorem s83 : ∀ k : Nat, ∀ {a0 : Int} {r : Str}, F83 k a0 = some r → Q 83 [(.int .i64 a0)] (.str r) := by
 intro k a0 r h
 unfold F83 at h
 refine Qg (pf := XvC) rfl rfl rfl fun H => ?_
 refine B_ <| us 1 rfl <| A_ <| B_ <| us 2 rfl <| WS rfl (nz rfl (Xaj (ys := [cv .u8 a0]) (f := (eI .u8)) (parts := [(0, (.int .u8 (cv .u8 a0)))]) rfl rfl rfl rfl rfl rfl (fc ⟨rfl, rfl⟩ (fun p hp => nomatch hp)) rfl)) ?_
 have hv1 : Xa8 (eI .u8) (some [cv .u8 a0]) _ := ⟨.full, rfl⟩
 refine us 1 rfl <| A_ <| B_ <| us 1 rfl ?_
 obtain ⟨z2, hz2, h⟩ := Xaf h
 refine w (.int .i64 z2) rfl (nz rfl (XfU rfl rfl hz2)) <| us 1 rfl <| A_ <| I_ ?_
 obtain ⟨y3, hy3, hOy3⟩ := Xaf h
 refine R_ ?_
 refine XsG ?_ hy3 (.lst (List.map (eI .u8) [cv .u8 a0]) .full) (hv1) kn (hs H)
 intro σ S v4 hv4 hk H; replace h := hOy3
 refine J_ hk <| U_ <| C_ <| B_ <| w v4 rfl rfl <| w (.str (Str.of y3.1)) rfl (nz (Xaw hv4.frz rfl) (Xb9 rfl hv4 rfl rfl rfl)) <| us 1 rfl <| A_ <| Q_ ?_
 cases oi h
 exact Kr (.str (Str.of y3.1)) rfl rfl
def F56 (k : Nat) (a0 : Int) (a1 : Int) : Option Xab :=
 (F83 k a1).bind fun y2 =>
 some (Xab.mk a0 y2 none)
theorem s56 : ∀ k : Nat, ∀ {a0 : Int} {a1 : Int} {r : Xab}, F56 k a0 a1 = some r → Q 56 [(.int .u8 a0), (.int .i64 a1)] (.agg (Xaa r)) := by
 intro k a0 a1 r h vs ha S
 unfold F56 at h
 refine e_ (pf := XtK) rfl rfl ha (D_ rfl) rfl cq ?_
 refine o_ (pf := XtK) rfl ?_
 have H := g_ []
 refine B_ <| Wa (ti := XbA) H rfl ?_
 intro i1 S hi1 H
 refine A_ <| B_ <| us 2 rfl ?_
 obtain ⟨y2, hy2, h⟩ := Xaf h
 refine Cl (.str y2) [(.int .i64 a1)] rfl rfl (s83 _ hy2 rfl) <| w (.agg [(.int .u8 a0), (.str y2), .nils]) rfl (nz rfl (XaH (ti := XbA) rfl rfl rfl rfl rfl (Xav rfl rfl rfl rfl (D_ rfl) rfl (Xav rfl rfl rfl rfl (D_ rfl) rfl rfl)))) <| Ws 0 H hi1 rfl ?_
 intro S H
 refine A_ <| Q_ ?_
 cases oi h
 refine Z_ (vs := [(.agg [(.int .u8 a0), (.str y2), .nils])]) (Xa0 rfl (H.get 0 rfl) rfl Xas) (L_ rfl rfl) ?_
 exact (by simp only [Xa7, List.map_cons, List.map_nil, Xal, Xax, Xap, Xaq, Xbp, Xbc, Xad, Xaa])
def F26 (k : Nat) (a0 : Int) (a1 : Int) : Option Xab :=
 (F56 k a0 a1).bind fun y2 =>
 some y2
theorem s26 : ∀ k : Nat, ∀ {a0 : Int} {a1 : Int} {r : Xab}, F26 k a0 a1 = some r → Q 26 [(.int .u8 a0), (.int .i64 a1)] (.agg (Xaa r)) := by
 intro k a0 a1 r h vs ha S
 unfold F26 at h
 refine e_ (pf := XtL) rfl rfl ha (D_ rfl) rfl cq ?_
 refine o_ (pf := XtL) rfl ?_
 have H := g_ []
 refine B_ <| Wa (ti := XbA) H rfl ?_
 intro i1 S hi1 H
 refine A_ <| B_ <| us 2 rfl ?_
 obtain ⟨y2, hy2, h⟩ := Xaf h
 refine Cl (.agg (Xaa y2)) [(.int .u8 a0), (.int .i64 a1)] rfl rfl (s56 _ hy2 rfl) <| Ws 0 H hi1 rfl ?_
 intro S H
 refine A_ <| Q_ ?_
 have h := oi h; subst h
 refine Z_ (vs := [(.agg (Xaa y2))]) (Xa0 rfl (H.get 0 rfl) rfl Xas) (L_ rfl rfl) ?_
 exact (by simp only [Xa7, List.map_cons, List.map_nil, Xal, Xax, Xap, Xaq, Xai, Xad, Xaa])
def F58 (k : Nat) (a0 : Int) (a1 : Str) : Option Xab :=
 some (Xab.mk a0 a1 none)
theorem s58 : ∀ k : Nat, ∀ {a0 : Int} {a1 : Str} {r : Xab}, F58 k a0 a1 = some r → Q 58 [(.int .u8 a0), (.str a1)] (.agg (Xaa r)) := by
 intro k a0 a1 r h vs ha S
 unfold F58 at h
 refine e_ (pf := XtM) rfl rfl ha (D_ rfl) rfl cq ?_
 refine o_ (pf := XtM) rfl ?_
 have H := g_ []
 refine B_ <| Wa (ti := XbA) H rfl ?_
 intro i1 S hi1 H
 refine A_ <| B_ <| us 2 rfl <| w (.agg [(.int .u8 a0), (.str a1), .nils]) rfl (nz rfl (XaH (ti := XbA) rfl rfl rfl rfl rfl (Xav rfl rfl rfl rfl (D_ rfl) rfl (Xav rfl rfl rfl rfl (D_ rfl) rfl rfl)))) <| Ws 0 H hi1 rfl ?_
 intro S H
 refine A_ <| Q_ ?_
 cases oi h
 refine Z_ (vs := [(.agg [(.int .u8 a0), (.str a1), .nils])]) (Xa0 rfl (H.get 0 rfl) rfl Xas) (L_ rfl rfl) ?_
 exact (by simp only [Xa7, List.map_cons, List.map_nil, Xal, Xax, Xap, Xaq, Xbp, Xbc, Xad, Xaa])
def F57 (k : Nat) (a0 : Str) : Option Xab :=
 (F58 k 4 a0).bind fun y2 =>
 some y2
theorem s57 : ∀ k : Nat, ∀ {a0 : Str} {r : Xab}, F57 k a0 = some r → Q 57 [(.str a0)] (.agg (Xaa r)) := by
 intro k a0 r h vs ha S
 unfold F57 at h
 refine e_ (pf := XtN) rfl rfl ha (D_ rfl) rfl cq ?_
 refine o_ (pf := XtN) rfl ?_
 have H := g_ []
 refine B_ <| Wa (ti := XbA) H rfl ?_
 intro i1 S hi1 H
 refine A_ <| B_ <| us 1 rfl ?_
 obtain ⟨y2, hy2, h⟩ := Xaf h
 refine Cl (.agg (Xaa y2)) [(.int .u8 4), (.str a0)] rfl rfl (s58 _ hy2 rfl) <| Ws 0 H hi1 rfl ?_
 intro S H
 refine A_ <| Q_ ?_
 have h := oi h; subst h
 refine Z_ (vs := [(.agg (Xaa y2))]) (Xa0 rfl (H.get 0 rfl) rfl Xas) (L_ rfl rfl) ?_
 exact (by simp only [Xa7, List.map_cons, List.map_nil, Xal, Xax, Xap, Xaq, Xai, Xad, Xaa])
def F25 (k : Nat) (a0 : Int) (a1 : Sl Xab) : Option Xab :=
 some (Xab.mk a0 [] a1)
theorem s25 : ∀ k : Nat, ∀ {a0 : Int} {a1 : Sl Xab} {r : Xab}, F25 k a0 a1 = some r → Q 25 [(.int .u8 a0), (Xar Xac a1)] (.agg (Xaa r)) := by
 intro k a0 a1 r h vs ha S
 unfold F25 at h
 refine e_ (pf := XtJ) rfl rfl ha (D_ rfl) cq cq ?_
 refine o_ (pf := XtJ) rfl ?_
 have H := g_ []
 refine B_ <| Wa (ti := XbA) H rfl ?_
 intro i1 S hi1 H
 refine A_ <| B_ <| us 2 rfl <| w (.agg [(.int .u8 a0), (.str []), (Xar Xac a1)]) rfl (nz (Xaw rfl (fe rfl rfl)) (XaH (ti := XbA) rfl rfl rfl rfl rfl (Xav rfl rfl rfl rfl (D_ rfl) rfl (Xav rfl (c_ _ _).one.1 (c_ _ _).one.2 rfl (D_ rfl) rfl rfl)))) <| Ws 0 H hi1 rfl ?_
 intro S H
 refine A_ <| Q_ ?_
 cases oi h
 refine Z_ (vs := [(.agg [(.int .u8 a0), (.str []), (Xar Xac a1)])]) (Xa0 rfl (H.get 0 rfl) rfl Xas) (L_ rfl rfl) ?_
 exact (by simp only [Xa7, List.map_cons, List.map_nil, Xal, Xax, Xap, Xaq, Xai, Xad, Xaa])
def F84 (k : Nat) (a0 : Bool) : Option Str :=
 if a0 then
 some [255]
 else
 some [0]
theorem s84 : ∀ k : Nat, ∀ {a0 : Bool} {r : Str}, F84 k a0 = some r → Q 84 [(.bool a0)] (.str r) := by
 intro k a0 r h
 unfold F84 at h
 refine Qg (pf := XvI) rfl rfl rfl fun H => ?_
 refine B_ <| us 1 rfl <| A_ <| I_ <| B_ <| us 1 rfl <| A_ ?_
 rcases Xa1 h with ⟨hc2, h⟩ | ⟨hc2, h⟩
 refine F_ rfl hc2 <| B_ <| us 1 rfl <| A_ <| Q_ <| H_ ?_
 cases oi h
 exact Kr (.str [255]) rfl rfl
 refine G_ rfl hc2 <| M_ <| C_ <| B_ <| us 1 rfl <| A_ <| Q_ ?_
 cases oi h
 exact Kr (.str [0]) rfl rfl
def F59 (k : Nat) (a0 : Bool) : Option Xab :=
 (F84 k a0).bind fun y2 =>
 (F58 k 1 y2).bind fun y3 =>
 some y3
theorem s59 : ∀ k : Nat, ∀ {a0 : Bool} {r : Xab}, F59 k a0 = some r → Q 59 [(.bool a0)] (.agg (Xaa r)) := by
 intro k a0 r h vs ha S
 unfold F59 at h
 refine e_ (pf := XtO) rfl rfl ha (D_ rfl) rfl cq ?_
 refine o_ (pf := XtO) rfl ?_
 have H := g_ []
 refine B_ <| Wa (ti := XbA) H rfl ?_
 intro i1 S hi1 H
 refine A_ <| B_ <| us 1 rfl ?_
 obtain ⟨y2, hy2, h⟩ := Xaf h
 refine Cl (.str y2) [(.bool a0)] rfl rfl (s84 _ hy2 rfl) ?_
 obtain ⟨y3, hy3, h⟩ := Xaf h
 refine Cl (.agg (Xaa y3)) [(.int .u8 1), (.str y2)] rfl rfl (s58 _ hy3 rfl) <| Ws 0 H hi1 rfl ?_
 intro S H
 refine A_ <| Q_ ?_
 have h := oi h; subst h
 refine Z_ (vs := [(.agg (Xaa y3))]) (Xa0 rfl (H.get 0 rfl) rfl Xas) (L_ rfl rfl) ?_
 exact (by simp only [Xa7, List.map_cons, List.map_nil, Xal, Xax, Xap, Xaq, Xai, Xad, Xaa])
def Xgp (k : Nat) (a0 : Int) (a1 : Sl Str) (a2 : Xab) : Nat → (Sl Xab) → Int → Option ((Sl Xab) × Int)
 | 0, _, _ => none
 | n + 1, x3, x4 =>
  if decide (x4 < (Sl.len a1)) then
  (Sl.at? a1 x4).bind fun y5 =>
  (F57 k y5).bind fun y6 =>
  (Sl.app? 48 x3 (Sl.l (some [y6]))).bind fun z7 =>
  Xgp k a0 a1 a2 n z7 (ad .i64 x4 1)
  else
  some (x3, x4)
def F61 (k : Nat) (a0 : Int) (a1 : Sl Str) : Option Xab :=
 (Xgp k a0 a1 (Xab.mk 0 [] none) k none 0).bind fun y2 =>
 (F25 k a0 y2.1).bind fun y3 =>
 some y3
theorem XsH {k : Nat} {a2 : Int} {a3 : Sl Str} {a4 : Xab} {S0 : List SObj} {R : List Nat} {K : KX} {i1 : Nat} (hi1 : S0.length ≤ i1)  {o : ((Sl Xab) × Int)}
  (hbrk : ∀ {σ' : Nat → PV} {S' : List SObj}, ∀ (v5 : PV) (_ : Xa8 Xac o.1 v5), Xa2 [(0, (.int .u8 a2)), (4, (.ptr i1 0)), (5, v5)] σ' → Hp S0 R S' [(i1, .cells (Xau a4 .nils))] [(v5, 3)] [] → K (.exit 0) σ' S' false) :
  ∀ {n : Nat} {x6 : Sl Xab} {x7 : Int}, Xgp k a2 a3 a4 n x6 x7 = some o → ∀ {σ : Nat → PV} {S : List SObj}, ∀ (v8 : PV) (_ : Xa8 Xac x6 v8), Xa2 [(0, (.int .u8 a2)), (1, (Xar eS a3)), (4, (.ptr i1 0)), (5, v8), (6, (.int .i64 x7))] σ → Hp S0 R S [(i1, .cells (Xau a4 .nils))] [(v8, 3)] [] → WC env ⟨24, S0.length⟩ (.loop XrH) σ S false K := by
 intro n
 induction n with
 | zero => intro _ _ h; cases h
 | succ n ih =>
  intro x6 x7 h σ S v8 hv8 hk H
  rw [Xgp] at h
  refine b_ <| X_ hk <| I_ <| B_ <| us 2 rfl <| Wl rfl <| us 1 rfl <| A_ ?_
  rcases Xa1 h with ⟨hc9, h⟩ | ⟨hc9, h⟩
  refine F_ rfl hc9 <| M_ <| C_ <| I_ <| R_ <| S_ <| w v8 rfl rfl <| us 2 rfl ?_
  obtain ⟨y10, hy10, h⟩ := Xaf h
  refine Wx hy10 rfl rfl <| us 1 rfl ?_
  obtain ⟨y11, hy11, h⟩ := Xaf h
  refine Cl (.agg (Xaa y11)) [(.str y10)] rfl rfl (s57 _ hy11 rfl) <| WS rfl (nz rfl (Xaj (ys := [y11]) (f := Xac) (parts := [(0, (.agg (Xaa y11)))]) rfl rfl rfl rfl rfl (by simp only [Xax, List.map_cons, List.map_nil, Xap, Xaq, Xai, Xad, Xal]) (fc ⟨rfl, rfl⟩ (fun p hp => nomatch hp)) rfl)) ?_
  have hv12 : Xa8 Xac (some [y11]) _ := ⟨.full, rfl⟩
  obtain ⟨z13, hz13, h⟩ := Xaf h
  refine WO.ex rfl (nzx (Xaw hv12.frz rfl) (Xb0 (f := Xac) (ei := XbA) H 0 rfl rfl hv8 rfl hv12 rfl rfl rfl rfl (fun a => (Xa4 a).2.1) hz13)) ?_
  rintro v14 S ⟨hv14, H⟩
  refine w v14 rfl rfl <| A_ <| V_ <| C_ <| S_ <| us 3 rfl <| A_ <| C_ ?_
  exact ih h v14 (hv14) kn (hs H)
  refine G_ rfl hc9 <| Y_ <| K_ <| K_ ?_
  cases oi h
  exact hbrk v8 (hv8) kn (hs H)
theorem s61 : ∀ k : Nat, ∀ {a0 : Int} {a1 : Sl Str} {r : Xab}, F61 k a0 a1 = some r → Q 61 [(.int .u8 a0), (Xar eS a1)] (.agg (Xaa r)) := by
 intro k a0 a1 r h vs ha S
 unfold F61 at h
 refine e_ (pf := XtP) rfl rfl ha (D_ rfl) cq cq ?_
 refine o_ (pf := XtP) rfl ?_
 have H := g_ []
 refine B_ <| Wa (ti := XbA) H rfl ?_
 intro i1 S hi1 H
 refine A_ <| B_ <| us 1 rfl <| A_ <| I_ <| B_ <| us 1 rfl <| A_ ?_
 obtain ⟨y2, hy2, hOy2⟩ := Xaf h
 refine R_ ?_
 have H := H.addNil 3
 refine XsH hi1 ?_ hy2 .nils ((Xam _)) kn (hs H)
 intro σ S v3 hv3 hk H; replace h := hOy2
 refine J_ hk <| U_ <| C_ <| B_ <| us 1 rfl <| w v3 rfl rfl ?_
 obtain ⟨y4, hy4, h⟩ := Xaf h
 refine Cl (.agg (Xaa y4)) [(.int .u8 a0), v3] rfl (Xaw rfl (Xaw hv3.frz rfl)) (s25 _ hy4 (by simp only [XaI, hv3.strip, List.map_cons, List.map_nil, Xal] <;> rfl)) <| Ws 0 H hi1 rfl ?_
 intro S H
 refine A_ <| Q_ ?_
 have h := oi h; subst h
 refine Z_ (vs := [(.agg (Xaa y4))]) (Xa0 rfl (H.get 0 rfl) rfl Xas) (L_ rfl rfl) ?_
 exact (by simp only [Xa7, List.map_cons, List.map_nil, Xal, Xax, Xap, Xaq, Xai, Xad, Xaa])
def Xgq (rc0 : Xae → Option Xab) (k : Nat) (a1 : Xab) (a2 : Xae) : Nat → (Sl Xab) → Int → Option ((Sl Xab) × Int)
 | 0, _, _ => none
 | n + 1, x3, x4 =>
  if decide (x4 < (Sl.len a2.Kids)) then
  (Sl.at? a2.Kids x4).bind fun y5 =>
  (rc0 y5).bind fun y6 =>
  (Sl.app? 48 x3 (Sl.l (some [y6]))).bind fun z7 =>
  Xgq rc0 k a1 a2 n z7 (ad .i64 x4 1)
  else
  some (x3, x4)
def Xgr (rc0 : Xae → Option Xab) (k : Nat) (a1 : Xab) (a2 : Xae) : Nat → (Sl Xab) → Int → Option ((Sl Xab) × Int)
 | 0, _, _ => none
 | n + 1, x3, x4 =>
  if decide (x4 < (Sl.len a2.Subs)) then
  (if x4 == 0 then
  some 128
  else
  (if x4 == (sb .i64 (Sl.len a2.Subs) 1) then
  some 130
  else
  some 129).bind fun y5 =>
  some y5).bind fun y6 =>
  (Sl.at? a2.Subs x4).bind fun y7 =>
  (if !(y7 == []) then
  (Sl.at? a2.Subs x4).bind fun y8 =>
  (F58 k y6 y8).bind fun y10 =>
  (Sl.app? 48 x3 (Sl.l (some [y10]))).bind fun z11 =>
  some z11
  else
  some x3).bind fun y12 =>
  Xgr rc0 k a1 a2 n y12 (ad .i64 x4 1)
  else
  some (x3, x4)
def F60 : Nat → Xae → Option Xab
 | 0, _ => none
 | k + 1, a0 =>
  if decide (a0.Kind ≤ 3) then
  (Xgq (F60 k) k (Xab.mk 0 [] none) a0 k none 0).bind fun y1 =>
  (F25 k (cv .u8 (ad .i64 159 a0.Kind)) y1.1).bind fun y2 =>
  some y2
  else
  if a0.Kind == 7 then
  (F58 k 135 a0.Attr).bind fun y3 =>
  some y3
  else
  if a0.Kind == 8 then
  (Xgr (F60 k) k (Xab.mk 0 [] none) a0 k none 0).bind fun y4 =>
  (F57 k a0.Attr).bind fun y5 =>
  (F25 k 48 y4.1).bind fun y6 =>
  (F25 k 164 (some [y5, y6])).bind fun y7 =>
  some y7
  else
  if a0.Kind == 4 then
  (F61 k 163 (some [a0.Attr, a0.Value])).bind fun y8 =>
  some y8
  else
  if a0.Kind == 5 then
  (F61 k 165 (some [a0.Attr, a0.Value])).bind fun y9 =>
  some y9
  else
  (F61 k 166 (some [a0.Attr, a0.Value])).bind fun y10 =>
  some y10
theorem XsI {rc0 : Xae → Option Xab} (hrc0 : ∀ {a0 : Xae} {r : Xab}, rc0 a0 = some r → Q 60 [(.agg (Xag a0))] (.agg (Xaa r))) {k : Nat} {a3 : Xab} {a4 : Xae} {S0 : List SObj} {R : List Nat} {K : KX} {i2 : Nat} {i1 : Nat} (hi2 : S0.length ≤ i2) (hi1 : S0.length ≤ i1)  {o : ((Sl Xab) × Int)}
  (hbrk : ∀ {σ' : Nat → PV} {S' : List SObj}, ∀ (v5 : PV) (_ : Xa8 Xac o.1 v5), Xa2 [(1, (.ptr i1 0)), (2, (.ptr i2 0)), (3, v5)] σ' → Hp S0 R S' [(i2, .cells (Xau a3 .nils)), (i1, .cells (Xag a4))] [(v5, 3)] [] → K (.exit 0) σ' S' false) :
  ∀ {n : Nat} {x6 : Sl Xab} {x7 : Int}, Xgq rc0 k a3 a4 n x6 x7 = some o → ∀ {σ : Nat → PV} {S : List SObj}, ∀ (v8 : PV) (_ : Xa8 Xac x6 v8), Xa2 [(1, (.ptr i1 0)), (2, (.ptr i2 0)), (3, v8), (4, (.int .i64 x7))] σ → Hp S0 R S [(i2, .cells (Xau a3 .nils)), (i1, .cells (Xag a4))] [(v8, 3)] [] → WC env ⟨102, S0.length⟩ (.loop XrJ) σ S false K := by
 intro n
 induction n with
 | zero => intro _ _ h; cases h
 | succ n ih =>
  intro x6 x7 h σ S v8 hv8 hk H
  rw [Xgq] at h
  refine b_ <| X_ hk <| I_ <| B_ <| us 2 rfl <| Wg H 1 rfl <| Wl rfl <| us 1 rfl <| A_ ?_
  rcases Xa1 h with ⟨hc9, h⟩ | ⟨hc9, h⟩
  refine F_ rfl hc9 <| M_ <| C_ <| I_ <| R_ <| S_ <| w v8 rfl rfl <| us 1 rfl <| Wg H 1 rfl <| us 1 rfl ?_
  obtain ⟨y10, hy10, h⟩ := Xaf h
  refine Wx hy10 (XaA _) rfl <| us 1 rfl ?_
  obtain ⟨y11, hy11, h⟩ := Xaf h
  refine Cl (.agg (Xaa y11)) [(.agg (Xag y10))] rfl rfl (sv (hrc0 hy11)) <| WS rfl (nz rfl (Xaj (ys := [y11]) (f := Xac) (parts := [(0, (.agg (Xaa y11)))]) rfl rfl rfl rfl rfl (by simp only [Xax, List.map_cons, List.map_nil, Xap, Xaq, Xai, Xad, Xal]) (fc ⟨rfl, rfl⟩ (fun p hp => nomatch hp)) rfl)) ?_
  have hv12 : Xa8 Xac (some [y11]) _ := ⟨.full, rfl⟩
  obtain ⟨z13, hz13, h⟩ := Xaf h
  refine WO.ex rfl (nzx (Xaw hv12.frz rfl) (Xb0 (f := Xac) (ei := XbA) H 0 rfl rfl hv8 rfl hv12 rfl rfl rfl rfl (fun a => (Xa4 a).2.1) hz13)) ?_
  rintro v14 S ⟨hv14, H⟩
  refine w v14 rfl rfl <| A_ <| V_ <| C_ <| S_ <| us 3 rfl <| A_ <| C_ ?_
  exact ih h v14 (hv14) kn (hs H)
  refine G_ rfl hc9 <| Y_ <| K_ <| K_ ?_
  cases oi h
  exact hbrk v8 (hv8) kn (hs H)
theorem XsJ {rc0 : Xae → Option Xab} (hrc0 : ∀ {a0 : Xae} {r : Xab}, rc0 a0 = some r → Q 60 [(.agg (Xag a0))] (.agg (Xaa r))) {k : Nat} {a3 : Xab} {a4 : Xae} {S0 : List SObj} {R : List Nat} {K : KX} {i2 : Nat} {i1 : Nat} (hi2 : S0.length ≤ i2) (hi1 : S0.length ≤ i1)  {o : ((Sl Xab) × Int)}
  (hbrk : ∀ {σ' : Nat → PV} {S' : List SObj}, ∀ (v5 : PV) (_ : Xa8 Xac o.1 v5), Xa2 [(1, (.ptr i1 0)), (2, (.ptr i2 0)), (5, v5)] σ' → Hp S0 R S' [(i2, .cells (Xau a3 .nils)), (i1, .cells (Xag a4))] [(v5, 3)] [] → K (.exit 3) σ' S' false) :
  ∀ {n : Nat} {x6 : Sl Xab} {x7 : Int}, Xgr rc0 k a3 a4 n x6 x7 = some o → ∀ {σ : Nat → PV} {S : List SObj}, ∀ (v8 : PV) (_ : Xa8 Xac x6 v8), Xa2 [(1, (.ptr i1 0)), (2, (.ptr i2 0)), (5, v8), (6, (.int .i64 x7))] σ → Hp S0 R S [(i2, .cells (Xau a3 .nils)), (i1, .cells (Xag a4))] [(v8, 3)] [] → WC env ⟨102, S0.length⟩ (.loop XrK) σ S false K := by
 intro n
 induction n with
 | zero => intro _ _ h; cases h
 | succ n ih =>
  intro x6 x7 h σ S v8 hv8 hk H
  rw [Xgr] at h
  refine b_ <| X_ hk <| I_ <| B_ <| us 2 rfl <| Wg H 1 rfl <| Wl rfl <| us 1 rfl <| A_ ?_
  rcases Xa1 h with ⟨hc9, h⟩ | ⟨hc9, h⟩
  refine F_ rfl hc9 <| M_ <| C_ <| I_ <| R_ <| B_ <| us 1 rfl <| A_ <| I_ <| B_ <| us 2 rfl <| A_ ?_
  obtain ⟨y10, hy10, hOy10⟩ := Xaf h
  refine a_ (SJ [(1, (.ptr i1 0)), (2, (.ptr i2 0)), (5, v8), (6, (.int .i64 x7)), (7, (.int .u8 y10))] S0 R [(i2, .cells (Xau a3 .nils)), (i1, .cells (Xag a4))] [(v8, 3)] [] false) ?_ ?_
  replace h := hy10
  rcases Xa1 h with ⟨hc11, h⟩ | ⟨hc11, h⟩
  refine F_ rfl hc11 <| S_ <| us 1 rfl <| A_ <| C_ ?_
  cases oi h
  exact kh H
  refine G_ rfl hc11 <| B_ <| us 2 rfl <| Wg H 1 rfl <| Wl rfl <| us 2 rfl <| A_ ?_
  obtain ⟨y12, hy12, hOy12⟩ := Xaf h
  refine a_ (SJ [(1, (.ptr i1 0)), (2, (.ptr i2 0)), (5, v8), (6, (.int .i64 x7)), (7, (.int .u8 y12))] S0 R [(i2, .cells (Xau a3 .nils)), (i1, .cells (Xag a4))] [(v8, 3)] [] false) ?_ ?_
  replace h := hy12
  rcases Xa1 h with ⟨hc13, h⟩ | ⟨hc13, h⟩
  refine F_ rfl hc13 <| S_ <| us 1 rfl <| A_ <| C_ ?_
  cases oi h
  exact kh H
  refine G_ rfl hc13 <| M_ <| C_ ?_
  cases oi h
  exact kh H
  rintro σ S e ⟨hk, H, rfl⟩
  replace h := hOy12
  refine J_ hk <| C_ ?_
  cases oi h
  exact kh H
  rintro σ S e ⟨hk, H, rfl⟩
  replace h := hOy10
  refine J_ hk <| C_ <| B_ <| us 1 rfl <| Wg H 1 rfl <| us 1 rfl ?_
  obtain ⟨y14, hy14, h⟩ := Xaf h
  refine Wx hy14 rfl rfl <| us 2 rfl <| A_ ?_
  obtain ⟨y15, hy15, hOy15⟩ := Xaf h
  refine a_ (fun σ' S' e' => ∃ v16, Xa8 Xac y15 v16 ∧ Xa2 ([(1, (.ptr i1 0)), (2, (.ptr i2 0)), (5, v16), (6, (.int .i64 x7))]) σ' ∧ Hp S0 R S' [(i2, .cells (Xau a3 .nils)), (i1, .cells (Xag a4))] [(v16, 3)] [] ∧ e' = false) ?_ ?_
  replace h := hy15
  rcases Xa1 h with ⟨hc17, h⟩ | ⟨hc17, h⟩
  refine F_ rfl hc17 <| S_ <| w v8 rfl rfl <| us 2 rfl <| Wg H 1 rfl <| us 1 rfl ?_
  obtain ⟨y18, hy18, h⟩ := Xaf h
  refine Wx hy18 rfl rfl <| us 1 rfl ?_
  obtain ⟨y19, hy19, h⟩ := Xaf h
  refine Cl (.agg (Xaa y19)) [(.int .u8 y10), (.str y18)] rfl rfl (s58 _ hy19 rfl) <| WS rfl (nz rfl (Xaj (ys := [y19]) (f := Xac) (parts := [(0, (.agg (Xaa y19)))]) rfl rfl rfl rfl rfl (by simp only [Xax, List.map_cons, List.map_nil, Xap, Xaq, Xai, Xad, Xal]) (fc ⟨rfl, rfl⟩ (fun p hp => nomatch hp)) rfl)) ?_
  have hv20 : Xa8 Xac (some [y19]) _ := ⟨.full, rfl⟩
  obtain ⟨z21, hz21, h⟩ := Xaf h
  refine WO.ex rfl (nzx (Xaw hv20.frz rfl) (Xb0 (f := Xac) (ei := XbA) H 0 rfl rfl hv8 rfl hv20 rfl rfl rfl rfl (fun a => (Xa4 a).2.1) hz21)) ?_
  rintro v22 S ⟨hv22, H⟩
  refine w v22 rfl rfl <| A_ <| C_ ?_
  cases oi h
  exact ⟨v22, hv22, kn, (hs H), rfl⟩
  refine G_ rfl hc17 <| M_ <| C_ ?_
  cases oi h
  exact ⟨v8, hv8, kn, (hs H), rfl⟩
  rintro σ S e ⟨v16, hv16, hk, H, rfl⟩
  replace h := hOy15
  refine J_ hk <| V_ <| C_ <| S_ <| us 3 rfl <| A_ <| C_ ?_
  exact ih h v16 (hv16) kn (hs H)
  refine G_ rfl hc9 <| Y_ <| K_ <| K_ ?_
  cases oi h
  exact hbrk v8 (hv8) kn (hs H)
theorem s60 : ∀ k : Nat, ∀ {a0 : Xae} {r : Xab}, F60 k a0 = some r → Q 60 [(.agg (Xag a0))] (.agg (Xaa r)) := by
 intro k
 induction k with
 | zero => intro _ r h; cases h
 | succ k ih =>
  intro a0 r h vs ha S
  rw [F60] at h
  refine e_ (pf := XtQ) rfl rfl ha (D_ rfl) cq cq ?_
  refine o_ (pf := XtQ) rfl ?_
  have H := g_ []
  refine B_ <| Wb H rfl ?_
  intro i1 S hi1 H
  refine Wa (ti := XbA) H rfl ?_
  intro i2 S hi2 H
  refine A_ <| I_ <| B_ <| us 1 rfl <| Wg H 1 rfl <| us 1 rfl <| A_ ?_
  rcases Xa1 h with ⟨hc3, h⟩ | ⟨hc3, h⟩
  refine F_ rfl hc3 <| B_ <| us 1 rfl <| A_ <| I_ <| B_ <| us 1 rfl <| A_ ?_
  obtain ⟨y4, hy4, hOy4⟩ := Xaf h
  refine R_ ?_
  have H := H.addNil 3
  refine XsI ih hi2 hi1 ?_ hy4 .nils ((Xam _)) kn (hs H)
  intro σ S v5 hv5 hk H; replace h := hOy4
  refine J_ hk <| U_ <| C_ <| B_ <| us 1 rfl <| Wg H 1 rfl <| us 2 rfl <| w v5 rfl rfl ?_
  obtain ⟨y6, hy6, h⟩ := Xaf h
  refine Cl (.agg (Xaa y6)) [(.int .u8 (cv .u8 (ad .i64 159 a0.Kind))), v5] rfl (Xaw rfl (Xaw hv5.frz rfl)) (s25 _ hy6 (by simp only [XaI, hv5.strip, List.map_cons, List.map_nil, Xal] <;> rfl)) <| Ws 0 H hi2 rfl ?_
  intro S H
  refine A_ <| Q_ <| H_ ?_
  have h := oi h; subst h
  refine Z_ (vs := [(.agg (Xaa y6))]) (Xa0 rfl (H.get 0 rfl) rfl Xas) (L_ rfl rfl) ?_
  exact (by simp only [Xa7, List.map_cons, List.map_nil, Xal, Xax, Xap, Xaq, Xai, Xad, Xaa])
  refine G_ rfl hc3 <| M_ <| C_ <| I_ <| B_ <| us 1 rfl <| Wg H 1 rfl <| A_ <| R_ <| B_ <| us 2 rfl <| A_ ?_
  rcases Xa1 h with ⟨hc7, h⟩ | ⟨hc7, h⟩
  refine F_ rfl hc7 <| B_ <| us 1 rfl <| Wg H 1 rfl ?_
  obtain ⟨y8, hy8, h⟩ := Xaf h
  refine Cl (.agg (Xaa y8)) [(.int .u8 135), (.str a0.Attr)] rfl rfl (s58 _ hy8 rfl) <| Ws 0 H hi2 rfl ?_
  intro S H
  refine A_ <| Q_ <| P_ <| H_ ?_
  have h := oi h; subst h
  refine Z_ (vs := [(.agg (Xaa y8))]) (Xa0 rfl (H.get 0 rfl) rfl Xas) (L_ rfl rfl) ?_
  exact (by simp only [Xa7, List.map_cons, List.map_nil, Xal, Xax, Xap, Xaq, Xai, Xad, Xaa])
  refine G_ rfl hc7 <| B_ <| us 2 rfl <| A_ ?_
  rcases Xa1 h with ⟨hc10, h⟩ | ⟨hc10, h⟩
  refine F_ rfl hc10 <| B_ <| us 1 rfl <| A_ <| I_ <| B_ <| us 1 rfl <| A_ ?_
  obtain ⟨y11, hy11, hOy11⟩ := Xaf h
  refine R_ ?_
  have H := H.addNil 3
  refine XsJ ih hi2 hi1 ?_ hy11 .nils ((Xam _)) kn (hs H)
  intro σ S v12 hv12 hk H; replace h := hOy11
  refine J_ hk <| U_ <| C_ <| B_ <| us 1 rfl <| Wg H 1 rfl ?_
  obtain ⟨y13, hy13, h⟩ := Xaf h
  refine Cl (.agg (Xaa y13)) [(.str a0.Attr)] rfl rfl (s57 _ hy13 rfl) <| w v12 rfl rfl ?_
  obtain ⟨y14, hy14, h⟩ := Xaf h
  refine Cl (.agg (Xaa y14)) [(.int .u8 48), v12] rfl (fo rfl (Xaw hv12.frz rfl)) (s25 _ hy14 (by simp only [XaI, hv12.strip, List.map_cons, List.map_nil, Xal] <;> rfl)) <| WS rfl (nz rfl (Xaj (ys := [y13, y14]) (f := Xac) (parts := [(0, (.agg (Xaa y13))), (1, (.agg (Xaa y14)))]) rfl rfl rfl rfl rfl (by simp only [Xax, List.map_cons, List.map_nil, Xap, Xaq, Xai, Xad, Xal]) (fc ⟨rfl, rfl⟩ (fc ⟨rfl, rfl⟩ (fun p hp => nomatch hp))) rfl)) ?_
  have hv15 : Xa8 Xac (some [y13, y14]) _ := ⟨.full, rfl⟩
  obtain ⟨y16, hy16, h⟩ := Xaf h
  refine Cl (.agg (Xaa y16)) [(.int .u8 164), (.lst (List.map Xac [y13, y14]) .full)] rfl (fo rfl (Xaw hv15.frz rfl)) (s25 _ hy16 (by simp only [XaI, hv15.strip, XaX, Xa3, eI, eB, eS, List.map_cons, List.map_nil, Xal] <;> rfl)) <| Ws 0 H hi2 rfl ?_
  intro S H
  refine A_ <| Q_ <| P_ <| H_ ?_
  have h := oi h; subst h
  refine Z_ (vs := [(.agg (Xaa y16))]) (Xa0 rfl (H.get 0 rfl) rfl Xas) (L_ rfl rfl) ?_
  exact (by simp only [Xa7, List.map_cons, List.map_nil, Xal, Xax, Xap, Xaq, Xai, Xad, Xaa])
  refine G_ rfl hc10 <| B_ <| us 2 rfl <| A_ ?_
  rcases Xa1 h with ⟨hc17, h⟩ | ⟨hc17, h⟩
  refine F_ rfl hc17 <| B_ <| us 1 rfl <| Wg H 1 rfl <| us 1 rfl <| Wg H 1 rfl <| WS rfl (nz rfl (Xaj (ys := [a0.Attr, a0.Value]) (f := eS) (parts := [(0, (.str a0.Attr)), (1, (.str a0.Value))]) rfl rfl rfl rfl rfl rfl (fc ⟨rfl, rfl⟩ (fc ⟨rfl, rfl⟩ (fun p hp => nomatch hp))) rfl)) ?_
  have hv18 : Xa8 eS (some [a0.Attr, a0.Value]) _ := ⟨.full, rfl⟩
  obtain ⟨y19, hy19, h⟩ := Xaf h
  refine Cl (.agg (Xaa y19)) [(.int .u8 163), (.lst (List.map eS [a0.Attr, a0.Value]) .full)] rfl (fo rfl (Xaw hv18.frz rfl)) (s61 _ hy19 (by simp only [XaI, hv18.strip, XaX, Xa3, eI, eB, eS, List.map_cons, List.map_nil, Xal] <;> rfl)) <| Ws 0 H hi2 rfl ?_
  intro S H
  refine A_ <| Q_ <| P_ <| H_ ?_
  have h := oi h; subst h
  refine Z_ (vs := [(.agg (Xaa y19))]) (Xa0 rfl (H.get 0 rfl) rfl Xas) (L_ rfl rfl) ?_
  exact (by simp only [Xa7, List.map_cons, List.map_nil, Xal, Xax, Xap, Xaq, Xai, Xad, Xaa])
  refine G_ rfl hc17 <| B_ <| us 2 rfl <| A_ ?_
  rcases Xa1 h with ⟨hc20, h⟩ | ⟨hc20, h⟩
  refine F_ rfl hc20 <| B_ <| us 1 rfl <| Wg H 1 rfl <| us 1 rfl <| Wg H 1 rfl <| WS rfl (nz rfl (Xaj (ys := [a0.Attr, a0.Value]) (f := eS) (parts := [(0, (.str a0.Attr)), (1, (.str a0.Value))]) rfl rfl rfl rfl rfl rfl (fc ⟨rfl, rfl⟩ (fc ⟨rfl, rfl⟩ (fun p hp => nomatch hp))) rfl)) ?_
  have hv21 : Xa8 eS (some [a0.Attr, a0.Value]) _ := ⟨.full, rfl⟩
  obtain ⟨y22, hy22, h⟩ := Xaf h
  refine Cl (.agg (Xaa y22)) [(.int .u8 165), (.lst (List.map eS [a0.Attr, a0.Value]) .full)] rfl (fo rfl (Xaw hv21.frz rfl)) (s61 _ hy22 (by simp only [XaI, hv21.strip, XaX, Xa3, eI, eB, eS, List.map_cons, List.map_nil, Xal] <;> rfl)) <| Ws 0 H hi2 rfl ?_
  intro S H
  refine A_ <| Q_ <| P_ <| H_ ?_
  have h := oi h; subst h
  refine Z_ (vs := [(.agg (Xaa y22))]) (Xa0 rfl (H.get 0 rfl) rfl Xas) (L_ rfl rfl) ?_
  exact (by simp only [Xa7, List.map_cons, List.map_nil, Xal, Xax, Xap, Xaq, Xai, Xad, Xaa])
  refine G_ rfl hc20 <| M_ <| V_ <| C_ <| B_ <| us 1 rfl <| Wg H 1 rfl <| us 1 rfl <| Wg H 1 rfl <| WS rfl (nz rfl (Xaj (ys := [a0.Attr, a0.Value]) (f := eS) (parts := [(0, (.str a0.Attr)), (1, (.str a0.Value))]) rfl rfl rfl rfl rfl rfl (fc ⟨rfl, rfl⟩ (fc ⟨rfl, rfl⟩ (fun p hp => nomatch hp))) rfl)) ?_
  have hv23 : Xa8 eS (some [a0.Attr, a0.Value]) _ := ⟨.full, rfl⟩
  obtain ⟨y24, hy24, h⟩ := Xaf h
  refine Cl (.agg (Xaa y24)) [(.int .u8 166), (.lst (List.map eS [a0.Attr, a0.Value]) .full)] rfl (fo rfl (Xaw hv23.frz rfl)) (s61 _ hy24 (by simp only [XaI, hv23.strip, XaX, Xa3, eI, eB, eS, List.map_cons, List.map_nil, Xal] <;> rfl)) <| Ws 0 H hi2 rfl ?_
  intro S H
  refine A_ <| Q_ ?_
  have h := oi h; subst h
  refine Z_ (vs := [(.agg (Xaa y24))]) (Xa0 rfl (H.get 0 rfl) rfl Xas) (L_ rfl rfl) ?_
  exact (by simp only [Xa7, List.map_cons, List.map_nil, Xal, Xax, Xap, Xaq, Xai, Xad, Xaa])
def Xgs (k : Nat) (a0 : Sl Xat) (a1 : Xab) : Nat → (Sl Xab) → Int → Option ((Sl Xab) × Int)
 | 0, _, _ => none
 | n + 1, x2, x3 =>
  if decide (x3 < (Sl.len a0)) then
  (Sl.at? a0 x3).bind fun y4 =>
  (F57 k y4.Attr).bind fun y5 =>
  (Sl.at? a0 x3).bind fun y6 =>
  (F61 k 49 y6.Values).bind fun y7 =>
  (F25 k 48 (some [y5, y7])).bind fun y8 =>
  (Sl.at? a0 x3).bind fun y10 =>
  (F56 k 10 (sb .i64 y10.Kind 1)).bind fun y11 =>
  (F25 k 48 (some [y11, y8])).bind fun y12 =>
  (Sl.app? 48 x2 (Sl.l (some [y12]))).bind fun z13 =>
  Xgs k a0 a1 n z13 (ad .i64 x3 1)
  else
  some (x2, x3)
def F62 (k : Nat) (a0 : Sl Xat) : Option Xab :=
 (Xgs k a0 (Xab.mk 0 [] none) k none 0).bind fun y1 =>
 (F25 k 48 y1.1).bind fun y2 =>
 some y2
theorem XsK {k : Nat} {a2 : Sl Xat} {a3 : Xab} {S0 : List SObj} {R : List Nat} {K : KX} {i1 : Nat} (hi1 : S0.length ≤ i1)  {o : ((Sl Xab) × Int)}
  (hbrk : ∀ {σ' : Nat → PV} {S' : List SObj}, ∀ (v4 : PV) (_ : Xa8 Xac o.1 v4), Xa2 [(2, (.ptr i1 0)), (3, v4)] σ' → Hp S0 R S' [(i1, .cells (Xau a3 .nils))] [(v4, 3)] [] → K (.exit 0) σ' S' false) :
  ∀ {n : Nat} {x5 : Sl Xab} {x6 : Int}, Xgs k a2 a3 n x5 x6 = some o → ∀ {σ : Nat → PV} {S : List SObj}, ∀ (v7 : PV) (_ : Xa8 Xac x5 v7), Xa2 [(0, (Xar Xao a2)), (2, (.ptr i1 0)), (3, v7), (4, (.int .i64 x6))] σ → Hp S0 R S [(i1, .cells (Xau a3 .nils))] [(v7, 3)] [] → WC env ⟨41, S0.length⟩ (.loop XrN) σ S false K := by
 intro n
 induction n with
 | zero => intro _ _ h; cases h
 | succ n ih =>
  intro x5 x6 h σ S v7 hv7 hk H
  rw [Xgs] at h
  refine b_ <| X_ hk <| I_ <| B_ <| us 2 rfl <| Wl rfl <| us 1 rfl <| A_ ?_
  rcases Xa1 h with ⟨hc8, h⟩ | ⟨hc8, h⟩
  refine F_ rfl hc8 <| M_ <| C_ <| I_ <| R_ <| I_ <| j_ <| wk _ rfl rfl rfl rfl <| wk _ rfl rfl rfl rfl ?_
  obtain ⟨y9, hy9, h⟩ := Xaf h
  refine WK.step (v := (.iptr (XbG y9) 0)) rfl (nz rfl (Xbv rfl (c_ _ _) rfl rfl rfl hy9 (Xaz _) rfl)) rfl rfl rfl rfl <| wk _ rfl rfl rfl rfl <| wk _ rfl rfl rfl rfl ?_
  obtain ⟨y10, hy10, h⟩ := Xaf h
  refine WK.step (v := (.agg (Xaa y10))) rfl (pz rfl rfl (show List.map PV.strip [(.str y9.Attr)] = [(.str y9.Attr)] from rfl) rfl (s57 _ hy10 (show List.map PV.strip [(.str y9.Attr)] = [(.str y9.Attr)] from rfl) []) cq (by simp only [Xax, List.map_cons, List.map_nil, Xap, Xaq, Xai, Xad, Xal])) rfl rfl rfl rfl <| wk _ rfl rfl rfl rfl <| wk _ rfl rfl rfl rfl ?_
  obtain ⟨y11, hy11, h⟩ := Xaf h
  refine WK.step (v := (.iptr (XbG y11) 0)) rfl (nz rfl (Xbv rfl (c_ _ _) rfl rfl rfl hy11 (Xaz _) rfl)) rfl rfl rfl rfl <| wk _ rfl rfl rfl rfl <| wk _ rfl rfl rfl rfl ?_
  obtain ⟨y12, hy12, h⟩ := Xaf h
  refine WK.step (v := (.agg (Xaa y12))) rfl (pz (fo rfl (fe rfl rfl)) rfl (show List.map PV.strip [(.int .u8 49), (Xar eS y11.Values)] = [(.int .u8 49), (Xar eS y11.Values)] from (by simp only [XaI, XbS, List.map_cons, List.map_nil, Xal])) cq (s61 _ hy12 (show List.map PV.strip [(.int .u8 49), (Xar eS y11.Values)] = [(.int .u8 49), (Xar eS y11.Values)] from (by simp only [XaX, XdD, XaI, XbS, List.map_cons, List.map_nil, Xal])) []) cq (by simp only [Xax, List.map_cons, List.map_nil, Xap, Xaq, Xai, Xad, Xal])) rfl rfl rfl (Xfz (fc rfl (fc (c_ _ _).notRow (fun p hp => nomatch hp)))) <| WK.step rfl (nz rfl (Xaj (ys := [y10, y12]) (f := Xac) (parts := [(0, (.agg (Xaa y10))), (1, (.agg (Xaa y12)))]) rfl rfl rfl rfl rfl (by simp only [Xax, List.map_cons, List.map_nil, Xap, Xaq, Xai, Xad, Xal]) (fc ⟨rfl, rfl⟩ (fc ⟨rfl, rfl⟩ (fun p hp => nomatch hp))) rfl)) rfl rfl rfl rfl ?_
  have hv13 : Xa8 Xac (some [y10, y12]) _ := ⟨.full, rfl⟩
  obtain ⟨y14, hy14, h⟩ := Xaf h
  refine WK.step (v := (.agg (Xaa y14))) rfl (pz (fo rfl (Xaw hv13.frz rfl)) rfl (show List.map PV.strip [(.int .u8 48), (.lst (List.map Xac [y10, y12]) .full)] = [(.int .u8 48), (Xar Xac (some [y10, y12]))] from (by simp only [XaI, hv13.strip, XaX, Xa3, eI, eB, eS, List.map_cons, List.map_nil, Xal])) cq (s25 _ hy14 (show List.map PV.strip [(.int .u8 48), (Xar Xac (some [y10, y12]))] = [(.int .u8 48), (Xar Xac (some [y10, y12]))] from (by simp only [XaX, XdD, XaI, XbS, Xa3, eI, eB, eS, List.map_cons, List.map_nil, Xal])) []) cq (by simp only [Xax, List.map_cons, List.map_nil, Xap, Xaq, Xai, Xad, Xal])) rfl rfl rfl (Xfz (fc rfl (fc hv13.notRow (fun p hp => nomatch hp)))) ?_
  have Hh120 := H
  refine WK.alloc' (ti := XbA) rfl rfl rfl rfl H ?_
  intro i15 S hi15 H
  refine ⟨Xa9, ?_⟩
  refine WK.nil <| Ws 0 H hi15 rfl ?_
  intro S H
  refine A_ <| C_ <| h_ <| wh _ rfl rfl <| wh _ rfl rfl <| wh _ rfl rfl ?_
  obtain ⟨y16, hy16, h⟩ := Xaf h
  refine Wxh hy16 (Xaz _) rfl <| wh _ rfl rfl <| wh _ rfl rfl <| wh _ rfl rfl ?_
  obtain ⟨y17, hy17, h⟩ := Xaf h
  refine Clh (.agg (Xaa y17)) [(.int .u8 10), (.int .i64 (sb .i64 y16.Kind 1))] rfl rfl (s56 _ hy17 rfl) <| Wgh H 0 rfl <| k_ rfl (nz rfl (Xaj (ys := [y17, y14]) (f := Xac) (parts := [(0, (.agg (Xaa y17))), (1, (.agg (Xaa y14)))]) rfl rfl rfl rfl rfl (by simp only [Xax, List.map_cons, List.map_nil, Xap, Xaq, Xai, Xad, Xal]) (fc ⟨rfl, rfl⟩ (fc ⟨rfl, rfl⟩ (fun p hp => nomatch hp))) rfl)) rfl rfl ?_
  have hv18 : Xa8 Xac (some [y17, y14]) _ := ⟨.full, rfl⟩
  obtain ⟨y19, hy19, h⟩ := Xaf h
  refine Clh (.agg (Xaa y19)) [(.int .u8 48), (.lst (List.map Xac [y17, y14]) .full)] rfl (fo rfl (Xaw hv18.frz rfl)) (s25 _ hy19 (by simp only [XaI, hv18.strip, XaX, Xa3, eI, eB, eS, List.map_cons, List.map_nil, Xal] <;> rfl)) <| k_ rfl (nz rfl (Xaj (ys := [y19]) (f := Xac) (parts := [(0, (.agg (Xaa y19)))]) rfl rfl rfl rfl rfl (by simp only [Xax, List.map_cons, List.map_nil, Xap, Xaq, Xai, Xad, Xal]) (fc ⟨rfl, rfl⟩ (fun p hp => nomatch hp)) rfl)) rfl rfl ?_
  have hv20 : Xa8 Xac (some [y19]) _ := ⟨.full, rfl⟩
  refine f_ ?_
  obtain ⟨z21, hz21, h⟩ := Xaf h
  refine WO.ex rfl (nzx (Xaw hv20.frz rfl) (Xb0 (f := Xac) (ei := XbA) H 0 rfl rfl hv7 rfl hv20 rfl rfl rfl rfl (fun a => (Xa4 a).2.1) hz21)) ?_
  rintro v22 S ⟨hv22, H⟩
  refine w v22 rfl rfl <| A_ <| V_ <| C_ <| S_ <| us 3 rfl <| A_ <| C_ ?_
  exact ih h v22 (hv22) kn (H.sub (.cons _ (.cons_cons _ .slnil)) (.cons_cons _ .slnil) .slnil)
  refine G_ rfl hc8 <| Y_ <| K_ <| K_ ?_
  cases oi h
  exact hbrk v7 (hv7) kn (hs H)
theorem s62 : ∀ k : Nat, ∀ {a0 : Sl Xat} {r : Xab}, F62 k a0 = some r → Q 62 [(Xar Xao a0)] (.agg (Xaa r)) := by
 intro k a0 r h vs ha S
 unfold F62 at h
 refine e_ (pf := XtR) rfl rfl ha (D_ rfl) cq cq ?_
 refine o_ (pf := XtR) rfl ?_
 have H := g_ []
 refine B_ <| Wa (ti := XbA) H rfl ?_
 intro i1 S hi1 H
 refine A_ <| B_ <| us 1 rfl <| A_ <| I_ <| B_ <| us 1 rfl <| A_ ?_
 obtain ⟨y2, hy2, hOy2⟩ := Xaf h
 refine R_ ?_
 have H := H.addNil 3
 refine XsK hi1 ?_ hy2 .nils ((Xam _)) kn (hs H)
 intro σ S v3 hv3 hk H; replace h := hOy2
 refine J_ hk <| U_ <| C_ <| B_ <| w v3 rfl rfl ?_
 obtain ⟨y4, hy4, h⟩ := Xaf h
 refine Cl (.agg (Xaa y4)) [(.int .u8 48), v3] rfl (fo rfl (Xaw hv3.frz rfl)) (s25 _ hy4 (by simp only [XaI, hv3.strip, List.map_cons, List.map_nil, Xal] <;> rfl)) <| Ws 0 H hi1 rfl ?_
 intro S H
 refine A_ <| Q_ ?_
 have h := oi h; subst h
 refine Z_ (vs := [(.agg (Xaa y4))]) (Xa0 rfl (H.get 0 rfl) rfl Xas) (L_ rfl rfl) ?_
 exact (by simp only [Xa7, List.map_cons, List.map_nil, Xal, Xax, Xap, Xaq, Xai, Xad, Xaa])
def Xgt (k : Nat) (a0 : Sl Xat) (a1 : Xab) : Nat → (Sl Xab) → Int → Option ((Sl Xab) × Int)
 | 0, _, _ => none
 | n + 1, x2, x3 =>
  if decide (x3 < (Sl.len a0)) then
  (Sl.at? a0 x3).bind fun y4 =>
  (F57 k y4.Attr).bind fun y5 =>
  (Sl.at? a0 x3).bind fun y6 =>
  (F61 k 49 y6.Values).bind fun y7 =>
  (F25 k 48 (some [y5, y7])).bind fun y8 =>
  (Sl.app? 48 x2 (Sl.l (some [y8]))).bind fun z10 =>
  Xgt k a0 a1 n z10 (ad .i64 x3 1)
  else
  some (x2, x3)
def F63 (k : Nat) (a0 : Sl Xat) : Option Xab :=
 (Xgt k a0 (Xab.mk 0 [] none) k none 0).bind fun y1 =>
 (F25 k 48 y1.1).bind fun y2 =>
 some y2
theorem XsL {k : Nat} {a2 : Sl Xat} {a3 : Xab} {S0 : List SObj} {R : List Nat} {K : KX} {i1 : Nat} (hi1 : S0.length ≤ i1)  {o : ((Sl Xab) × Int)}
  (hbrk : ∀ {σ' : Nat → PV} {S' : List SObj}, ∀ (v4 : PV) (_ : Xa8 Xac o.1 v4), Xa2 [(2, (.ptr i1 0)), (3, v4)] σ' → Hp S0 R S' [(i1, .cells (Xau a3 .nils))] [(v4, 3)] [] → K (.exit 0) σ' S' false) :
  ∀ {n : Nat} {x5 : Sl Xab} {x6 : Int}, Xgt k a2 a3 n x5 x6 = some o → ∀ {σ : Nat → PV} {S : List SObj}, ∀ (v7 : PV) (_ : Xa8 Xac x5 v7), Xa2 [(0, (Xar Xao a2)), (2, (.ptr i1 0)), (3, v7), (4, (.int .i64 x6))] σ → Hp S0 R S [(i1, .cells (Xau a3 .nils))] [(v7, 3)] [] → WC env ⟨30, S0.length⟩ (.loop XrQ) σ S false K := by
 intro n
 induction n with
 | zero => intro _ _ h; cases h
 | succ n ih =>
  intro x5 x6 h σ S v7 hv7 hk H
  rw [Xgt] at h
  refine b_ <| X_ hk <| I_ <| B_ <| us 2 rfl <| Wl rfl <| us 1 rfl <| A_ ?_
  rcases Xa1 h with ⟨hc8, h⟩ | ⟨hc8, h⟩
  refine F_ rfl hc8 <| M_ <| C_ <| I_ <| R_ <| h_ <| wh _ rfl rfl <| wh _ rfl rfl <| wh _ rfl rfl ?_
  obtain ⟨y9, hy9, h⟩ := Xaf h
  refine Wxh hy9 (Xaz _) rfl <| wh _ rfl rfl <| wh _ rfl rfl ?_
  obtain ⟨y10, hy10, h⟩ := Xaf h
  refine Clh (.agg (Xaa y10)) [(.str y9.Attr)] rfl rfl (s57 _ hy10 rfl) <| wh _ rfl rfl <| wh _ rfl rfl ?_
  obtain ⟨y11, hy11, h⟩ := Xaf h
  refine Wxh hy11 (Xaz _) rfl <| wh _ rfl rfl <| wh _ rfl rfl ?_
  obtain ⟨y12, hy12, h⟩ := Xaf h
  refine Clh (.agg (Xaa y12)) [(.int .u8 49), (Xar eS y11.Values)] rfl (fo rfl (fe rfl rfl)) (sv (s61 _ hy12)) <| k_ rfl (nz rfl (Xaj (ys := [y10, y12]) (f := Xac) (parts := [(0, (.agg (Xaa y10))), (1, (.agg (Xaa y12)))]) rfl rfl rfl rfl rfl (by simp only [Xax, List.map_cons, List.map_nil, Xap, Xaq, Xai, Xad, Xal]) (fc ⟨rfl, rfl⟩ (fc ⟨rfl, rfl⟩ (fun p hp => nomatch hp))) rfl)) rfl rfl ?_
  have hv13 : Xa8 Xac (some [y10, y12]) _ := ⟨.full, rfl⟩
  obtain ⟨y14, hy14, h⟩ := Xaf h
  refine Clh (.agg (Xaa y14)) [(.int .u8 48), (.lst (List.map Xac [y10, y12]) .full)] rfl (fo rfl (Xaw hv13.frz rfl)) (s25 _ hy14 (by simp only [XaI, hv13.strip, XaX, Xa3, eI, eB, eS, List.map_cons, List.map_nil, Xal] <;> rfl)) <| k_ rfl (nz rfl (Xaj (ys := [y14]) (f := Xac) (parts := [(0, (.agg (Xaa y14)))]) rfl rfl rfl rfl rfl (by simp only [Xax, List.map_cons, List.map_nil, Xap, Xaq, Xai, Xad, Xal]) (fc ⟨rfl, rfl⟩ (fun p hp => nomatch hp)) rfl)) rfl rfl ?_
  have hv15 : Xa8 Xac (some [y14]) _ := ⟨.full, rfl⟩
  refine f_ ?_
  obtain ⟨z16, hz16, h⟩ := Xaf h
  refine WO.ex rfl (nzx (Xaw hv15.frz rfl) (Xb0 (f := Xac) (ei := XbA) H 0 rfl rfl hv7 rfl hv15 rfl rfl rfl rfl (fun a => (Xa4 a).2.1) hz16)) ?_
  rintro v17 S ⟨hv17, H⟩
  refine w v17 rfl rfl <| A_ <| V_ <| C_ <| S_ <| us 3 rfl <| A_ <| C_ ?_
  exact ih h v17 (hv17) kn (hs H)
  refine G_ rfl hc8 <| Y_ <| K_ <| K_ ?_
  cases oi h
  exact hbrk v7 (hv7) kn (hs H)
theorem s63 : ∀ k : Nat, ∀ {a0 : Sl Xat} {r : Xab}, F63 k a0 = some r → Q 63 [(Xar Xao a0)] (.agg (Xaa r)) := by
 intro k a0 r h vs ha S
 unfold F63 at h
 refine e_ (pf := XtS) rfl rfl ha (D_ rfl) cq cq ?_
 refine o_ (pf := XtS) rfl ?_
 have H := g_ []
 refine B_ <| Wa (ti := XbA) H rfl ?_
 intro i1 S hi1 H
 refine A_ <| B_ <| us 1 rfl <| A_ <| I_ <| B_ <| us 1 rfl <| A_ ?_
 obtain ⟨y2, hy2, hOy2⟩ := Xaf h
 refine R_ ?_
 have H := H.addNil 3
 refine XsL hi1 ?_ hy2 .nils ((Xam _)) kn (hs H)
 intro σ S v3 hv3 hk H; replace h := hOy2
 refine J_ hk <| U_ <| C_ <| B_ <| w v3 rfl rfl ?_
 obtain ⟨y4, hy4, h⟩ := Xaf h
 refine Cl (.agg (Xaa y4)) [(.int .u8 48), v3] rfl (fo rfl (Xaw hv3.frz rfl)) (s25 _ hy4 (by simp only [XaI, hv3.strip, List.map_cons, List.map_nil, Xal] <;> rfl)) <| Ws 0 H hi1 rfl ?_
 intro S H
 refine A_ <| Q_ ?_
 have h := oi h; subst h
 refine Z_ (vs := [(.agg (Xaa y4))]) (Xa0 rfl (H.get 0 rfl) rfl Xas) (L_ rfl rfl) ?_
 exact (by simp only [Xa7, List.map_cons, List.map_nil, Xal, Xax, Xap, Xaq, Xai, Xad, Xaa])
def F27 (k : Nat) (a0 : Xay) : Option Xab :=
 if a0.Op == 1 then
 (F26 k 2 a0.Version).bind fun y1 =>
 (F57 k a0.DN).bind fun y2 =>
 (F58 k 128 a0.Pass).bind fun y3 =>
 (F25 k 96 (some [y1, y2, y3])).bind fun y4 =>
 some y4
 else
 if a0.Op == 2 then
 (F58 k 66 []).bind fun y5 =>
 some y5
 else
 if a0.Op == 3 then
 (F57 k a0.DN).bind fun y6 =>
 (F26 k 10 a0.Scope).bind fun y7 =>
 (F26 k 10 0).bind fun y8 =>
 (F26 k 2 a0.Size).bind fun y9 =>
 (F26 k 2 0).bind fun y10 =>
 (F59 k false).bind fun y11 =>
 (F60 k a0.Filter).bind fun y12 =>
 (F61 k 48 a0.Wants).bind fun y13 =>
 (F25 k 99 (some [y6, y7, y8, y9, y10, y11, y12, y13])).bind fun y14 =>
 some y14
 else
 if a0.Op == 4 then
 (F57 k a0.DN).bind fun y15 =>
 (F62 k a0.Mods).bind fun y16 =>
 (F25 k 102 (some [y15, y16])).bind fun y17 =>
 some y17
 else
 if a0.Op == 5 then
 (F57 k a0.DN).bind fun y18 =>
 (F63 k a0.Mods).bind fun y19 =>
 (F25 k 104 (some [y18, y19])).bind fun y20 =>
 some y20
 else
 if a0.Op == 6 then
 (F58 k 74 a0.DN).bind fun y21 =>
 some y21
 else
 if a0.Op == 7 then
 (F57 k a0.DN).bind fun y22 =>
 (F57 k a0.RDN).bind fun y23 =>
 (F59 k a0.DelOld).bind fun y24 =>
 (if a0.HasSup then
 (F58 k 128 a0.Sup).bind fun y25 =>
 (Sl.app? 48 (some [y22, y23, y24]) (Sl.l (some [y25]))).bind fun z26 =>
 some z26
 else
 some (some [y22, y23, y24])).bind fun y27 =>
 (F25 k 108 y27).bind fun y28 =>
 some y28
 else
 if a0.Op == 8 then
 (F57 k a0.DN).bind fun y29 =>
 (F61 k 48 (some [a0.Attr, a0.Value])).bind fun y30 =>
 (F25 k 110 (some [y29, y30])).bind fun y31 =>
 some y31
 else
 if a0.Op == 10 then
 (F57 k a0.DN).bind fun y32 =>
 (F63 k a0.Mods).bind fun y33 =>
 (F25 k 100 (some [y32, y33])).bind fun y34 =>
 some y34
 else
 (Sl.at? (some [0, 97, 0, 101, 103, 105, 107, 109, 111]) a0.Of).bind fun y35 =>
 (F26 k 10 a0.Code).bind fun y36 =>
 (F57 k a0.Matched).bind fun y37 =>
 (F57 k []).bind fun y38 =>
 (F25 k y35 (some [y36, y37, y38])).bind fun y39 =>
 some y39
theorem s27 : ∀ k : Nat, ∀ {a0 : Xay} {r : Xab}, F27 k a0 = some r → Q 27 [(.agg (Xak a0))] (.agg (Xaa r)) := by
 intro k a0 r h vs ha S
 unfold F27 at h
 refine e_ (pf := XtT) rfl rfl ha (D_ rfl) cq cq ?_
 refine o_ (pf := XtT) rfl ?_
 have H := g_ []
 refine B_ <| Wb H rfl ?_
 intro i1 S hi1 H
 refine Wa (ti := XbA) H rfl ?_
 intro i2 S hi2 H
 refine A_ <| I_ <| B_ <| us 1 rfl <| Wg H 1 rfl <| A_ <| R_ <| B_ <| us 2 rfl <| A_ ?_
 rcases Xa1 h with ⟨hc3, h⟩ | ⟨hc3, h⟩
 refine F_ rfl hc3 <| I_ <| h_ <| wh _ rfl rfl <| Wgh H 1 rfl ?_
 obtain ⟨y4, hy4, h⟩ := Xaf h
 refine Clh (.agg (Xaa y4)) [(.int .u8 2), (.int .i64 a0.Version)] rfl rfl (s26 _ hy4 rfl) <| wh _ rfl rfl <| Wgh H 1 rfl ?_
 obtain ⟨y6, hy6, h⟩ := Xaf h
 refine Clh (.agg (Xaa y6)) [(.str a0.DN)] rfl rfl (s57 _ hy6 rfl) <| wh _ rfl rfl <| Wgh H 1 rfl <| f_ ?_
 obtain ⟨y7, hy7, h⟩ := Xaf h
 refine Cl (.agg (Xaa y7)) [(.int .u8 128), (.str a0.Pass)] rfl rfl (s58 _ hy7 rfl) <| WS rfl (nz rfl (Xaj (ys := [y4, y6, y7]) (f := Xac) (parts := [(0, (.agg (Xaa y4))), (1, (.agg (Xaa y6))), (2, (.agg (Xaa y7)))]) rfl rfl rfl rfl rfl (by simp only [Xax, List.map_cons, List.map_nil, Xap, Xaq, Xai, Xad, Xal]) (fc ⟨rfl, rfl⟩ (fc ⟨rfl, rfl⟩ (fc ⟨rfl, rfl⟩ (fun p hp => nomatch hp)))) rfl)) ?_
 have hv8 : Xa8 Xac (some [y4, y6, y7]) _ := ⟨.full, rfl⟩
 obtain ⟨y9, hy9, h⟩ := Xaf h
 refine Cl (.agg (Xaa y9)) [(.int .u8 96), (.lst (List.map Xac [y4, y6, y7]) .full)] rfl (fo rfl (Xaw hv8.frz rfl)) (s25 _ hy9 (by simp only [XaI, hv8.strip, XaX, Xa3, eI, eB, eS, List.map_cons, List.map_nil, Xal] <;> rfl)) <| Ws 0 H hi2 rfl ?_
 intro S H
 refine A_ <| C_ <| Q_ <| P_ <| H_ ?_
 have h := oi h; subst h
 refine Z_ (vs := [(.agg (Xaa y9))]) (Xa0 rfl (H.get 0 rfl) rfl Xas) (L_ rfl rfl) ?_
 exact (by simp only [Xa7, List.map_cons, List.map_nil, Xal, Xax, Xap, Xaq, Xai, Xad, Xaa])
 refine G_ rfl hc3 <| B_ <| us 2 rfl <| A_ ?_
 rcases Xa1 h with ⟨hc10, h⟩ | ⟨hc10, h⟩
 refine F_ rfl hc10 <| B_ ?_
 obtain ⟨y11, hy11, h⟩ := Xaf h
 refine Cl (.agg (Xaa y11)) [(.int .u8 66), (.str [])] rfl rfl (s58 _ hy11 rfl) <| Ws 0 H hi2 rfl ?_
 intro S H
 refine A_ <| Q_ <| P_ <| H_ ?_
 have h := oi h; subst h
 refine Z_ (vs := [(.agg (Xaa y11))]) (Xa0 rfl (H.get 0 rfl) rfl Xas) (L_ rfl rfl) ?_
 exact (by simp only [Xa7, List.map_cons, List.map_nil, Xal, Xax, Xap, Xaq, Xai, Xad, Xaa])
 refine G_ rfl hc10 <| B_ <| us 2 rfl <| A_ ?_
 rcases Xa1 h with ⟨hc12, h⟩ | ⟨hc12, h⟩
 refine F_ rfl hc12 <| I_ <| h_ <| wh _ rfl rfl <| Wgh H 1 rfl ?_
 obtain ⟨y13, hy13, h⟩ := Xaf h
 refine Clh (.agg (Xaa y13)) [(.str a0.DN)] rfl rfl (s57 _ hy13 rfl) <| wh _ rfl rfl <| Wgh H 1 rfl ?_
 obtain ⟨y14, hy14, h⟩ := Xaf h
 refine Clh (.agg (Xaa y14)) [(.int .u8 10), (.int .i64 a0.Scope)] rfl rfl (s26 _ hy14 rfl) ?_
 obtain ⟨y15, hy15, h⟩ := Xaf h
 refine Clh (.agg (Xaa y15)) [(.int .u8 10), (.int .i64 0)] rfl rfl (s26 _ hy15 rfl) <| wh _ rfl rfl <| Wgh H 1 rfl ?_
 obtain ⟨y16, hy16, h⟩ := Xaf h
 refine Clh (.agg (Xaa y16)) [(.int .u8 2), (.int .i64 a0.Size)] rfl rfl (s26 _ hy16 rfl) ?_
 obtain ⟨y17, hy17, h⟩ := Xaf h
 refine Clh (.agg (Xaa y17)) [(.int .u8 2), (.int .i64 0)] rfl rfl (s26 _ hy17 rfl) ?_
 obtain ⟨y18, hy18, h⟩ := Xaf h
 refine Clh (.agg (Xaa y18)) [(.bool false)] rfl rfl (s59 _ hy18 rfl) <| wh _ rfl rfl <| Wgh H 1 rfl ?_
 obtain ⟨y19, hy19, h⟩ := Xaf h
 refine Clh (.agg (Xaa y19)) [(.agg (Xag a0.Filter))] rfl rfl (sv (s60 _ hy19)) <| wh _ rfl rfl <| Wgh H 1 rfl <| f_ ?_
 obtain ⟨y20, hy20, h⟩ := Xaf h
 refine Cl (.agg (Xaa y20)) [(.int .u8 48), (Xar eS a0.Wants)] rfl (fo rfl (fe rfl rfl)) (sv (s61 _ hy20)) <| WS rfl (nz rfl (Xaj (ys := [y13, y14, y15, y16, y17, y18, y19, y20]) (f := Xac) (parts := [(0, (.agg (Xaa y13))), (1, (.agg (Xaa y14))), (2, (.agg (Xaa y15))), (3, (.agg (Xaa y16))), (4, (.agg (Xaa y17))), (5, (.agg (Xaa y18))), (6, (.agg (Xaa y19))), (7, (.agg (Xaa y20)))]) rfl rfl rfl rfl rfl (by simp only [Xax, List.map_cons, List.map_nil, Xap, Xaq, Xai, Xad, Xal]) (fc ⟨rfl, rfl⟩ (fc ⟨rfl, rfl⟩ (fc ⟨rfl, rfl⟩ (fc ⟨rfl, rfl⟩ (fc ⟨rfl, rfl⟩ (fc ⟨rfl, rfl⟩ (fc ⟨rfl, rfl⟩ (fc ⟨rfl, rfl⟩ (fun p hp => nomatch hp))))))))) rfl)) ?_
 have hv21 : Xa8 Xac (some [y13, y14, y15, y16, y17, y18, y19, y20]) _ := ⟨.full, rfl⟩
 obtain ⟨y22, hy22, h⟩ := Xaf h
 refine Cl (.agg (Xaa y22)) [(.int .u8 99), (.lst (List.map Xac [y13, y14, y15, y16, y17, y18, y19, y20]) .full)] rfl (fo rfl (Xaw hv21.frz rfl)) (s25 _ hy22 (by simp only [XaI, hv21.strip, XaX, Xa3, eI, eB, eS, List.map_cons, List.map_nil, Xal] <;> rfl)) <| Ws 0 H hi2 rfl ?_
 intro S H
 refine A_ <| C_ <| Q_ <| P_ <| H_ ?_
 have h := oi h; subst h
 refine Z_ (vs := [(.agg (Xaa y22))]) (Xa0 rfl (H.get 0 rfl) rfl Xas) (L_ rfl rfl) ?_
 exact (by simp only [Xa7, List.map_cons, List.map_nil, Xal, Xax, Xap, Xaq, Xai, Xad, Xaa])
 refine G_ rfl hc12 <| B_ <| us 2 rfl <| A_ ?_
 rcases Xa1 h with ⟨hc23, h⟩ | ⟨hc23, h⟩
 refine F_ rfl hc23 <| I_ <| h_ <| wh _ rfl rfl <| Wgh H 1 rfl ?_
 obtain ⟨y24, hy24, h⟩ := Xaf h
 refine Clh (.agg (Xaa y24)) [(.str a0.DN)] rfl rfl (s57 _ hy24 rfl) <| wh _ rfl rfl <| Wgh H 1 rfl <| f_ ?_
 obtain ⟨y25, hy25, h⟩ := Xaf h
 refine Cl (.agg (Xaa y25)) [(Xar Xao a0.Mods)] rfl (fe rfl rfl) (sv (s62 _ hy25)) <| WS rfl (nz rfl (Xaj (ys := [y24, y25]) (f := Xac) (parts := [(0, (.agg (Xaa y24))), (1, (.agg (Xaa y25)))]) rfl rfl rfl rfl rfl (by simp only [Xax, List.map_cons, List.map_nil, Xap, Xaq, Xai, Xad, Xal]) (fc ⟨rfl, rfl⟩ (fc ⟨rfl, rfl⟩ (fun p hp => nomatch hp))) rfl)) ?_
 have hv26 : Xa8 Xac (some [y24, y25]) _ := ⟨.full, rfl⟩
 obtain ⟨y27, hy27, h⟩ := Xaf h
 refine Cl (.agg (Xaa y27)) [(.int .u8 102), (.lst (List.map Xac [y24, y25]) .full)] rfl (fo rfl (Xaw hv26.frz rfl)) (s25 _ hy27 (by simp only [XaI, hv26.strip, XaX, Xa3, eI, eB, eS, List.map_cons, List.map_nil, Xal] <;> rfl)) <| Ws 0 H hi2 rfl ?_
 intro S H
 refine A_ <| C_ <| Q_ <| P_ <| H_ ?_
 have h := oi h; subst h
 refine Z_ (vs := [(.agg (Xaa y27))]) (Xa0 rfl (H.get 0 rfl) rfl Xas) (L_ rfl rfl) ?_
 exact (by simp only [Xa7, List.map_cons, List.map_nil, Xal, Xax, Xap, Xaq, Xai, Xad, Xaa])
 refine G_ rfl hc23 <| B_ <| us 2 rfl <| A_ ?_
 rcases Xa1 h with ⟨hc28, h⟩ | ⟨hc28, h⟩
 refine F_ rfl hc28 <| I_ <| h_ <| wh _ rfl rfl <| Wgh H 1 rfl ?_
 obtain ⟨y29, hy29, h⟩ := Xaf h
 refine Clh (.agg (Xaa y29)) [(.str a0.DN)] rfl rfl (s57 _ hy29 rfl) <| wh _ rfl rfl <| Wgh H 1 rfl <| f_ ?_
 obtain ⟨y30, hy30, h⟩ := Xaf h
 refine Cl (.agg (Xaa y30)) [(Xar Xao a0.Mods)] rfl (fe rfl rfl) (sv (s63 _ hy30)) <| WS rfl (nz rfl (Xaj (ys := [y29, y30]) (f := Xac) (parts := [(0, (.agg (Xaa y29))), (1, (.agg (Xaa y30)))]) rfl rfl rfl rfl rfl (by simp only [Xax, List.map_cons, List.map_nil, Xap, Xaq, Xai, Xad, Xal]) (fc ⟨rfl, rfl⟩ (fc ⟨rfl, rfl⟩ (fun p hp => nomatch hp))) rfl)) ?_
 have hv31 : Xa8 Xac (some [y29, y30]) _ := ⟨.full, rfl⟩
 obtain ⟨y32, hy32, h⟩ := Xaf h
 refine Cl (.agg (Xaa y32)) [(.int .u8 104), (.lst (List.map Xac [y29, y30]) .full)] rfl (fo rfl (Xaw hv31.frz rfl)) (s25 _ hy32 (by simp only [XaI, hv31.strip, XaX, Xa3, eI, eB, eS, List.map_cons, List.map_nil, Xal] <;> rfl)) <| Ws 0 H hi2 rfl ?_
 intro S H
 refine A_ <| C_ <| Q_ <| P_ <| H_ ?_
 have h := oi h; subst h
 refine Z_ (vs := [(.agg (Xaa y32))]) (Xa0 rfl (H.get 0 rfl) rfl Xas) (L_ rfl rfl) ?_
 exact (by simp only [Xa7, List.map_cons, List.map_nil, Xal, Xax, Xap, Xaq, Xai, Xad, Xaa])
 refine G_ rfl hc28 <| B_ <| us 2 rfl <| A_ ?_
 rcases Xa1 h with ⟨hc33, h⟩ | ⟨hc33, h⟩
 refine F_ rfl hc33 <| B_ <| us 1 rfl <| Wg H 1 rfl ?_
 obtain ⟨y34, hy34, h⟩ := Xaf h
 refine Cl (.agg (Xaa y34)) [(.int .u8 74), (.str a0.DN)] rfl rfl (s58 _ hy34 rfl) <| Ws 0 H hi2 rfl ?_
 intro S H
 refine A_ <| Q_ <| P_ <| H_ ?_
 have h := oi h; subst h
 refine Z_ (vs := [(.agg (Xaa y34))]) (Xa0 rfl (H.get 0 rfl) rfl Xas) (L_ rfl rfl) ?_
 exact (by simp only [Xa7, List.map_cons, List.map_nil, Xal, Xax, Xap, Xaq, Xai, Xad, Xaa])
 refine G_ rfl hc33 <| B_ <| us 2 rfl <| A_ ?_
 rcases Xa1 h with ⟨hc35, h⟩ | ⟨hc35, h⟩
 refine F_ rfl hc35 <| I_ <| h_ <| wh _ rfl rfl <| Wgh H 1 rfl ?_
 obtain ⟨y36, hy36, h⟩ := Xaf h
 refine Clh (.agg (Xaa y36)) [(.str a0.DN)] rfl rfl (s57 _ hy36 rfl) <| wh _ rfl rfl <| Wgh H 1 rfl ?_
 obtain ⟨y37, hy37, h⟩ := Xaf h
 refine Clh (.agg (Xaa y37)) [(.str a0.RDN)] rfl rfl (s57 _ hy37 rfl) <| wh _ rfl rfl <| Wgh H 1 rfl <| f_ ?_
 obtain ⟨y38, hy38, h⟩ := Xaf h
 refine Cl (.agg (Xaa y38)) [(.bool a0.DelOld)] rfl rfl (s59 _ hy38 rfl) <| WS rfl (nz rfl (Xaj (ys := [y36, y37, y38]) (f := Xac) (parts := [(0, (.agg (Xaa y36))), (1, (.agg (Xaa y37))), (2, (.agg (Xaa y38)))]) rfl rfl rfl rfl rfl (by simp only [Xax, List.map_cons, List.map_nil, Xap, Xaq, Xai, Xad, Xal]) (fc ⟨rfl, rfl⟩ (fc ⟨rfl, rfl⟩ (fc ⟨rfl, rfl⟩ (fun p hp => nomatch hp)))) rfl)) ?_
 have hv39 : Xa8 Xac (some [y36, y37, y38]) _ := ⟨.full, rfl⟩
 refine us 1 rfl <| A_ <| C_ <| I_ <| B_ <| us 1 rfl <| Wg H 1 rfl <| A_ ?_
 obtain ⟨y40, hy40, hOy40⟩ := Xaf h
 refine a_ (fun σ' S' e' => ∃ v41, Xa8 Xac y40 v41 ∧ Xa2 ([(2, (.ptr i2 0)), (3, v41)]) σ' ∧ Hp [] [] S' [(i2, .cells [(.int .u8 0), (.str []), .nils]), (i1, .cells (Xak a0))] [] [] ∧ e' = false) ?_ ?_
 replace h := hy40
 rcases Xa1 h with ⟨hc42, h⟩ | ⟨hc42, h⟩
 refine F_ rfl hc42 <| S_ <| us 2 rfl <| Wg H 1 rfl ?_
 obtain ⟨y43, hy43, h⟩ := Xaf h
 refine Cl (.agg (Xaa y43)) [(.int .u8 128), (.str a0.Sup)] rfl rfl (s58 _ hy43 rfl) <| WS rfl (nz rfl (Xaj (ys := [y43]) (f := Xac) (parts := [(0, (.agg (Xaa y43)))]) rfl rfl rfl rfl rfl (by simp only [Xax, List.map_cons, List.map_nil, Xap, Xaq, Xai, Xad, Xal]) (fc ⟨rfl, rfl⟩ (fun p hp => nomatch hp)) rfl)) ?_
 have hv44 : Xa8 Xac (some [y43]) _ := ⟨.full, rfl⟩
 obtain ⟨z45, hz45, h⟩ := Xaf h
 have H := H.addFull (List.map Xac [y36, y37, y38]) 3 (Xcv (f := Xac) (fun a => (Xa4 a).2.1) _)
 refine WO.ex rfl (nzx (Xaw hv44.frz rfl) (Xb0 (f := Xac) (ei := XbA) H 0 rfl rfl hv39 rfl hv44 rfl rfl rfl rfl (fun a => (Xa4 a).2.1) hz45)) ?_
 rintro v46 S ⟨hv46, H⟩
 refine w v46 rfl rfl <| A_ <| C_ ?_
 have h := oi h; subst h
 exact ⟨v46, hv46, kn, (H.sub (.cons_cons _ (.cons_cons _ .slnil)) (.cons _ .slnil) .slnil), rfl⟩
 refine G_ rfl hc42 <| M_ <| C_ ?_
 have h := oi h; subst h
 exact ⟨(.lst (List.map Xac [y36, y37, y38]) .full), hv39, kn, (hs H), rfl⟩
 rintro σ S e ⟨v41, hv41, hk, H, rfl⟩
 replace h := hOy40
 refine J_ hk <| C_ <| B_ <| w v41 rfl rfl ?_
 obtain ⟨y47, hy47, h⟩ := Xaf h
 refine Cl (.agg (Xaa y47)) [(.int .u8 108), v41] rfl (fo rfl (Xaw hv41.frz rfl)) (s25 _ hy47 (by simp only [XaI, hv41.strip, List.map_cons, List.map_nil, Xal] <;> rfl)) <| Ws 0 H hi2 rfl ?_
 intro S H
 refine A_ <| Q_ <| P_ <| H_ ?_
 have h := oi h; subst h
 refine Z_ (vs := [(.agg (Xaa y47))]) (Xa0 rfl (H.get 0 rfl) rfl Xas) (L_ rfl rfl) ?_
 exact (by simp only [Xa7, List.map_cons, List.map_nil, Xal, Xax, Xap, Xaq, Xai, Xad, Xaa])
 refine G_ rfl hc35 <| B_ <| us 2 rfl <| A_ ?_
 rcases Xa1 h with ⟨hc48, h⟩ | ⟨hc48, h⟩
 refine F_ rfl hc48 <| I_ <| h_ <| wh _ rfl rfl <| Wgh H 1 rfl ?_
 obtain ⟨y49, hy49, h⟩ := Xaf h
 refine Clh (.agg (Xaa y49)) [(.str a0.DN)] rfl rfl (s57 _ hy49 rfl) <| wh _ rfl rfl <| Wgh H 1 rfl <| wh _ rfl rfl <| Wgh H 1 rfl <| k_ rfl (nz rfl (Xaj (ys := [a0.Attr, a0.Value]) (f := eS) (parts := [(0, (.str a0.Attr)), (1, (.str a0.Value))]) rfl rfl rfl rfl rfl rfl (fc ⟨rfl, rfl⟩ (fc ⟨rfl, rfl⟩ (fun p hp => nomatch hp))) rfl)) rfl rfl ?_
 have hv50 : Xa8 eS (some [a0.Attr, a0.Value]) _ := ⟨.full, rfl⟩
 refine f_ ?_
 obtain ⟨y51, hy51, h⟩ := Xaf h
 refine Cl (.agg (Xaa y51)) [(.int .u8 48), (.lst (List.map eS [a0.Attr, a0.Value]) .full)] rfl (fo rfl (Xaw hv50.frz rfl)) (s61 _ hy51 (by simp only [XaI, hv50.strip, XaX, Xa3, eI, eB, eS, List.map_cons, List.map_nil, Xal] <;> rfl)) <| WS rfl (nz rfl (Xaj (ys := [y49, y51]) (f := Xac) (parts := [(0, (.agg (Xaa y49))), (1, (.agg (Xaa y51)))]) rfl rfl rfl rfl rfl (by simp only [Xax, List.map_cons, List.map_nil, Xap, Xaq, Xai, Xad, Xal]) (fc ⟨rfl, rfl⟩ (fc ⟨rfl, rfl⟩ (fun p hp => nomatch hp))) rfl)) ?_
 have hv52 : Xa8 Xac (some [y49, y51]) _ := ⟨.full, rfl⟩
 obtain ⟨y53, hy53, h⟩ := Xaf h
 refine Cl (.agg (Xaa y53)) [(.int .u8 110), (.lst (List.map Xac [y49, y51]) .full)] rfl (fo rfl (Xaw hv52.frz rfl)) (s25 _ hy53 (by simp only [XaI, hv52.strip, XaX, Xa3, eI, eB, eS, List.map_cons, List.map_nil, Xal] <;> rfl)) <| Ws 0 H hi2 rfl ?_
 intro S H
 refine A_ <| C_ <| Q_ <| P_ <| H_ ?_
 have h := oi h; subst h
 refine Z_ (vs := [(.agg (Xaa y53))]) (Xa0 rfl (H.get 0 rfl) rfl Xas) (L_ rfl rfl) ?_
 exact (by simp only [Xa7, List.map_cons, List.map_nil, Xal, Xax, Xap, Xaq, Xai, Xad, Xaa])
 refine G_ rfl hc48 <| B_ <| us 2 rfl <| A_ ?_
 rcases Xa1 h with ⟨hc54, h⟩ | ⟨hc54, h⟩
 refine F_ rfl hc54 <| I_ <| h_ <| wh _ rfl rfl <| Wgh H 1 rfl ?_
 obtain ⟨y55, hy55, h⟩ := Xaf h
 refine Clh (.agg (Xaa y55)) [(.str a0.DN)] rfl rfl (s57 _ hy55 rfl) <| wh _ rfl rfl <| Wgh H 1 rfl <| f_ ?_
 obtain ⟨y56, hy56, h⟩ := Xaf h
 refine Cl (.agg (Xaa y56)) [(Xar Xao a0.Mods)] rfl (fe rfl rfl) (sv (s63 _ hy56)) <| WS rfl (nz rfl (Xaj (ys := [y55, y56]) (f := Xac) (parts := [(0, (.agg (Xaa y55))), (1, (.agg (Xaa y56)))]) rfl rfl rfl rfl rfl (by simp only [Xax, List.map_cons, List.map_nil, Xap, Xaq, Xai, Xad, Xal]) (fc ⟨rfl, rfl⟩ (fc ⟨rfl, rfl⟩ (fun p hp => nomatch hp))) rfl)) ?_
 have hv57 : Xa8 Xac (some [y55, y56]) _ := ⟨.full, rfl⟩
 obtain ⟨y58, hy58, h⟩ := Xaf h
 refine Cl (.agg (Xaa y58)) [(.int .u8 100), (.lst (List.map Xac [y55, y56]) .full)] rfl (fo rfl (Xaw hv57.frz rfl)) (s25 _ hy58 (by simp only [XaI, hv57.strip, XaX, Xa3, eI, eB, eS, List.map_cons, List.map_nil, Xal] <;> rfl)) <| Ws 0 H hi2 rfl ?_
 intro S H
 refine A_ <| C_ <| Q_ <| P_ <| H_ ?_
 have h := oi h; subst h
 refine Z_ (vs := [(.agg (Xaa y58))]) (Xa0 rfl (H.get 0 rfl) rfl Xas) (L_ rfl rfl) ?_
 exact (by simp only [Xa7, List.map_cons, List.map_nil, Xal, Xax, Xap, Xaq, Xai, Xad, Xaa])
 refine G_ rfl hc54 <| M_ <| V_ <| C_ <| B_ <| w (.agg XtW) rfl (nz rfl (Xcx (ti := XoC) (ei := ty5) rfl rfl rfl rfl rfl (Xav (cells' := [(.int .u8 0), (.int .u8 0), (.int .u8 0), (.int .u8 0), (.int .u8 0), (.int .u8 0), (.int .u8 0), (.int .u8 0), (.int .u8 0)]) rfl rfl rfl rfl (D_ rfl) rfl (Xav (cells' := Xwf) rfl rfl rfl rfl (D_ rfl) rfl (Xav (cells' := Xwf) rfl rfl rfl rfl (D_ rfl) rfl (Xav (cells' := z22_) rfl rfl rfl rfl (D_ rfl) rfl (Xav (cells' := z20_) rfl rfl rfl rfl (D_ rfl) rfl (Xav (cells' := z18_) rfl rfl rfl rfl (D_ rfl) rfl (Xav (cells' := z16_) rfl rfl rfl rfl (D_ rfl) rfl (Xav (cells' := z14_) rfl rfl rfl rfl (D_ rfl) rfl (Xav (cells' := XtW) rfl rfl rfl rfl (D_ rfl) rfl rfl))))))))))) <| Wa (ti := XoC) H rfl ?_
 intro i59 S hi59 H
 refine Ws 0 H hi59 rfl ?_
 intro S H
 refine A_ <| I_ <| h_ <| wh _ rfl rfl <| Wgh H 2 rfl ?_
 obtain ⟨y60, hy60, h⟩ := Xaf h
 refine k_ (v := (.ptr i59 (0 + Int.toNat a0.Of * 1))) rfl (nz rfl (XgS (xs := [0, 97, 0, 101, 103, 105, 107, 109, 111]) rfl rfl rfl rfl rfl hy60)) rfl rfl <| k_ (v := .int .u8 y60) rfl (nz rfl (Xij (f := (eI .u8)) (xs := [0, 97, 0, 101, 103, 105, 107, 109, 111]) rfl (H.get 0 rfl) rfl rfl hy60)) rfl rfl <| wh _ rfl rfl <| Wgh H 2 rfl ?_
 obtain ⟨y61, hy61, h⟩ := Xaf h
 refine Clh (.agg (Xaa y61)) [(.int .u8 10), (.int .i64 a0.Code)] rfl rfl (s26 _ hy61 rfl) <| wh _ rfl rfl <| Wgh H 2 rfl ?_
 obtain ⟨y62, hy62, h⟩ := Xaf h
 refine Clh (.agg (Xaa y62)) [(.str a0.Matched)] rfl rfl (s57 _ hy62 rfl) ?_
 obtain ⟨y63, hy63, h⟩ := Xaf h
 refine Clh (.agg (Xaa y63)) [(.str [])] rfl rfl (s57 _ hy63 rfl) <| k_ rfl (nz rfl (Xaj (ys := [y61, y62, y63]) (f := Xac) (parts := [(0, (.agg (Xaa y61))), (1, (.agg (Xaa y62))), (2, (.agg (Xaa y63)))]) rfl rfl rfl rfl rfl (by simp only [Xax, List.map_cons, List.map_nil, Xap, Xaq, Xai, Xad, Xal]) (fc ⟨rfl, rfl⟩ (fc ⟨rfl, rfl⟩ (fc ⟨rfl, rfl⟩ (fun p hp => nomatch hp)))) rfl)) rfl rfl ?_
 have hv64 : Xa8 Xac (some [y61, y62, y63]) _ := ⟨.full, rfl⟩
 refine f_ ?_
 obtain ⟨y65, hy65, h⟩ := Xaf h
 refine Cl (.agg (Xaa y65)) [(.int .u8 y60), (.lst (List.map Xac [y61, y62, y63]) .full)] rfl (Xaw rfl (Xaw hv64.frz rfl)) (s25 _ hy65 (by simp only [XaI, hv64.strip, XaX, Xa3, eI, eB, eS, List.map_cons, List.map_nil, Xal] <;> rfl)) <| Ws 1 H hi2 rfl ?_
 intro S H
 refine A_ <| C_ <| Q_ ?_
 have h := oi h; subst h
 refine Z_ (vs := [(.agg (Xaa y65))]) (Xa0 rfl (H.get 1 rfl) rfl Xas) (L_ rfl rfl) ?_
 exact (by simp only [Xa7, List.map_cons, List.map_nil, Xal, Xax, Xap, Xaq, Xai, Xad, Xaa])
def Xjw (k : Nat) : Nat → Str → Int → Option (Str × Int)
 | 0, _, _ => none
 | n + 1, x0, x2 =>
  if decide (x2 > 0) then
  (Str.app? (Str.of (some [cv .u8 x2])) x0).bind fun z3 =>
  (XtZ .i64 x2 256).bind fun z4 =>
  Xjw k n z3 z4
  else
  some (x0, x2)
def F64 (k : Nat) (a0 : Int) : Option Str :=
 if decide (a0 < 128) then
 some (Str.of (some [cv .u8 a0]))
 else
 (Xjw k k [] a0).bind fun y1 =>
 (Str.app? (Str.of (some [cv .u8 (ad .i64 128 (Str.len y1.1))])) y1.1).bind fun z2 =>
 some z2
theorem XsM {k : Nat} {S0 : List SObj} {R : List Nat} {K : KX}  {o : (Str × Int)}
  (hbrk : EK [(3, (.str o.1))] S0 R [] [] [] (K (.exit 0))) :
  ∀ {n : Nat} {x1 : Str} {x2 : Int}, Xjw k n x1 x2 = some o → ∀ {σ : Nat → PV} {S : List SObj}, Xa2 [(3, (.str x1)), (4, (.int .i64 x2))] σ → Hp S0 R S [] [] [] → WC env ⟨30, S0.length⟩ (.loop XrU) σ S false K := by
 intro n
 induction n with
 | zero => intro _ _ h; cases h
 | succ n ih =>
  intro x1 x2 h σ S  hk H
  rw [Xjw] at h
  refine b_ <| X_ hk <| I_ <| B_ <| us 2 rfl <| A_ ?_
  rcases Xa1 h with ⟨hc3, h⟩ | ⟨hc3, h⟩
  refine F_ rfl hc3 <| M_ <| C_ <| I_ <| R_ <| S_ <| us 2 rfl <| WS rfl (nz rfl (Xaj (ys := [cv .u8 x2]) (f := (eI .u8)) (parts := [(0, (.int .u8 (cv .u8 x2)))]) rfl rfl rfl rfl rfl rfl (fc ⟨rfl, rfl⟩ (fun p hp => nomatch hp)) rfl)) ?_
  have hv4 : Xa8 (eI .u8) (some [cv .u8 x2]) _ := ⟨.full, rfl⟩
  refine w (.str (Str.of (some [cv .u8 x2]))) rfl (nz (Xaw hv4.frz rfl) (Xb9 rfl hv4 rfl rfl rfl)) <| us 1 rfl ?_
  obtain ⟨z5, hz5, h⟩ := Xaf h
  refine w (.str z5) rfl (nz rfl (Xcc rfl rfl hz5)) <| us 1 rfl <| A_ <| V_ <| C_ <| S_ <| us 1 rfl ?_
  obtain ⟨z6, hz6, h⟩ := Xaf h
  refine w (.int .i64 z6) rfl (nz rfl (XmG rfl rfl hz6)) <| us 1 rfl <| A_ <| C_ ?_
  exact ih h  kn (hs H)
  refine G_ rfl hc3 <| Y_ <| K_ <| K_ ?_
  cases oi h
  exact hbrk  kn (hs H)
theorem s64 : ∀ k : Nat, ∀ {a0 : Int} {r : Str}, F64 k a0 = some r → Q 64 [(.int .i64 a0)] (.str r) := by
 intro k a0 r h
 unfold F64 at h
 refine Qg (pf := XvL) rfl rfl rfl fun H => ?_
 refine B_ <| us 1 rfl <| A_ <| I_ <| B_ <| us 2 rfl <| A_ ?_
 rcases Xa1 h with ⟨hc2, h⟩ | ⟨hc2, h⟩
 refine F_ rfl hc2 <| B_ <| us 2 rfl <| WS rfl (nz rfl (Xaj (ys := [cv .u8 a0]) (f := (eI .u8)) (parts := [(0, (.int .u8 (cv .u8 a0)))]) rfl rfl rfl rfl rfl rfl (fc ⟨rfl, rfl⟩ (fun p hp => nomatch hp)) rfl)) ?_
 have hv3 : Xa8 (eI .u8) (some [cv .u8 a0]) _ := ⟨.full, rfl⟩
 refine w (.str (Str.of (some [cv .u8 a0]))) rfl (nz (Xaw hv3.frz rfl) (Xb9 rfl hv3 rfl rfl rfl)) <| us 1 rfl <| A_ <| Q_ <| H_ ?_
 have h := oi h; subst h
 exact Kr (.str (Str.of (some [cv .u8 a0]))) rfl rfl
 refine G_ rfl hc2 <| M_ <| C_ <| B_ <| us 1 rfl <| A_ <| I_ <| B_ <| us 2 rfl <| A_ ?_
 obtain ⟨y4, hy4, hOy4⟩ := Xaf h
 refine R_ ?_
 refine XsM ?_ hy4  kn (hs H)
 intro σ S  hk H; replace h := hOy4
 refine J_ hk <| U_ <| C_ <| B_ <| us 4 rfl <| WS rfl (nz rfl (Xaj (ys := [cv .u8 (ad .i64 128 (Str.len y4.1))]) (f := (eI .u8)) (parts := [(0, (.int .u8 (cv .u8 (ad .i64 128 (Str.len y4.1)))))]) rfl rfl rfl rfl rfl rfl (fc ⟨rfl, rfl⟩ (fun p hp => nomatch hp)) rfl)) ?_
 have hv5 : Xa8 (eI .u8) (some [cv .u8 (ad .i64 128 (Str.len y4.1))]) _ := ⟨.full, rfl⟩
 refine w (.str (Str.of (some [cv .u8 (ad .i64 128 (Str.len y4.1))]))) rfl (nz (Xaw hv5.frz rfl) (Xb9 rfl hv5 rfl rfl rfl)) <| us 1 rfl ?_
 obtain ⟨z6, hz6, h⟩ := Xaf h
 refine w (.str z6) rfl (nz rfl (Xcc rfl rfl hz6)) <| us 1 rfl <| A_ <| Q_ ?_
 have h := oi h; subst h
 exact Kr (.str z6) rfl rfl
def XdE (rc0 : Xab → Option (Str × Bool)) (k : Nat) (a2 : Xab) : Nat → Str → Int → Option (Out (Str × Bool) (Str × Int))
 | 0, _, _ => none
 | n + 1, x3, x4 =>
  if decide (x4 < (Sl.len a2.Kids)) then
  (Sl.at? a2.Kids x4).bind fun y5 =>
  (rc0 y5).bind fun y6 =>
  if !y6.2 then
  some (Out.ret ([], false))
  else
  (Str.app? x3 y6.1).bind fun z7 =>
  XdE rc0 k a2 n z7 (ad .i64 x4 1)
  else
  some (Out.brk (x3, x4))
def F28 : Nat → Xab → Option (Str × Bool)
 | 0, _ => none
 | k + 1, a0 =>
  (XdE (F28 k) k a0 k a0.Body 0).bind fun y1 =>
  match y1 with
  | .ret y1r => some (y1r.1, y1r.2)
  | .brk y1b =>
  if decide ((Str.len y1b.1) > 4000) then
  some ([], false)
  else
  (F64 k (Str.len y1b.1)).bind fun y2 =>
  (Str.app? (Str.of (some [a0.Tag])) y2).bind fun z3 =>
  (Str.app? z3 y1b.1).bind fun z4 =>
  some (z4, true)
theorem XsN {rc0 : Xab → Option (Str × Bool)} (hrc0 : ∀ {a0 : Xab} {r : Str × Bool}, rc0 a0 = some r → Q 28 [(.agg (Xaa a0))] (.tup [(.str r.1), (.bool r.2)])) {k : Nat} {a2 : Xab} {S0 : List SObj} {R : List Nat} {K : KX} {i1 : Nat} (hi1 : S0.length ≤ i1)  {o : Out (Str × Bool) (Str × Int)}
  (hret : ∀ r : Str × Bool, o = .ret r → EK [(2, (.str r.1)), (3, (.bool r.2))] S0 R [] [] [] (K .ret))
  (hbrk : ∀ y : Str × Int, o = .brk y → EK [(1, (.ptr i1 0)), (4, (.str y.1))] S0 R [(i1, .cells (Xaa a2))] [] [] (K (.exit 0))) :
  ∀ {n : Nat} {x3 : Str} {x4 : Int}, XdE rc0 k a2 n x3 x4 = some o → ∀ {σ : Nat → PV} {S : List SObj}, Xa2 [(1, (.ptr i1 0)), (4, (.str x3)), (5, (.int .i64 x4))] σ → Hp S0 R S [(i1, .cells (Xaa a2))] [] [] → WC env ⟨44, S0.length⟩ (.loop XrX) σ S false K := by
 intro n
 induction n with
 | zero => intro _ _ h; cases h
 | succ n ih =>
  intro x3 x4 h σ S  hk H
  rw [XdE] at h
  refine b_ <| X_ hk <| I_ <| B_ <| us 2 rfl <| Wg H 0 rfl <| Wl rfl <| us 1 rfl <| A_ ?_
  rcases Xa1 h with ⟨hc5, h⟩ | ⟨hc5, h⟩
  refine F_ rfl hc5 <| M_ <| C_ <| I_ <| R_ <| B_ <| us 1 rfl <| Wg H 0 rfl <| us 1 rfl ?_
  obtain ⟨y6, hy6, h⟩ := Xaf h
  refine Wx hy6 (XaD _) rfl <| us 1 rfl ?_
  obtain ⟨y7, hy7, h⟩ := Xaf h
  refine Cl (.tup [(.str y7.1), (.bool y7.2)]) [(.agg (Xaa y6))] rfl rfl (sv (hrc0 hy7)) <| us 5 rfl <| A_ <| I_ <| B_ <| us 2 rfl <| A_ ?_
  rcases Xa1 h with ⟨hc8, h⟩ | ⟨hc8, h⟩
  refine F_ rfl hc8 <| B_ <| us 2 rfl <| A_ <| Q_ <| H_ <| P_ <| H_ <| H_ ?_
  cases oi h
  exact hret _ rfl kn (H.sub (.cons _ .slnil) .slnil .slnil)
  refine G_ rfl hc8 <| M_ <| C_ <| S_ <| us 2 rfl ?_
  obtain ⟨z9, hz9, h⟩ := Xaf h
  refine w (.str z9) rfl (nz rfl (Xcc rfl rfl hz9)) <| us 1 rfl <| A_ <| V_ <| C_ <| S_ <| us 3 rfl <| A_ <| C_ ?_
  exact ih h  kn (hs H)
  refine G_ rfl hc5 <| Y_ <| K_ <| K_ ?_
  cases oi h
  exact hbrk _ rfl  kn (hs H)
theorem s28 : ∀ k : Nat, ∀ {a0 : Xab} {r : Str × Bool}, F28 k a0 = some r → Q 28 [(.agg (Xaa a0))] (.tup [(.str r.1), (.bool r.2)]) := by
 intro k
 induction k with
 | zero => intro _ r h; cases h
 | succ k ih =>
  intro a0 r h
  rw [F28] at h
  refine Qg (pf := XvM) rfl cq rfl fun H => ?_
  refine B_ <| Wb H rfl ?_
  intro i1 S hi1 H
  refine us 2 rfl <| A_ <| B_ <| us 1 rfl <| Wg H 0 rfl <| us 1 rfl <| A_ <| I_ <| B_ <| us 1 rfl <| A_ ?_
  obtain ⟨y2, hy2, hOy2⟩ := Xaf h
  refine R_ ?_
  refine XsN ih hi1 ?_ ?_ hy2  kn (hs H)
  intro y2r he σ S  hk H; subst he; replace h := hOy2; dsimp only at h
  refine J_ hk <| P_ <| H_ ?_
  cases oi h
  refine Z_ (vs := [(.str y2r.1), (.bool y2r.2)]) (T_ rfl (T_ rfl Xas)) (L_ rfl (L_ rfl rfl)) ?_
  exact rfl
  intro y2b he σ S  hk H; subst he; replace h := hOy2; dsimp only at h
  refine J_ hk <| U_ <| C_ <| I_ <| B_ <| us 3 rfl <| A_ ?_
  rcases Xa1 h with ⟨hc3, h⟩ | ⟨hc3, h⟩
  refine F_ rfl hc3 <| B_ <| us 2 rfl <| A_ <| Q_ <| H_ ?_
  cases oi h
  refine Z_ (vs := [(.str []), (.bool false)]) (T_ rfl (T_ rfl Xas)) (L_ rfl (L_ rfl rfl)) ?_
  exact rfl
  refine G_ rfl hc3 <| M_ <| C_ <| I_ <| h_ <| wh _ rfl rfl <| Wgh H 0 rfl <| k_ rfl (nz rfl (Xaj (ys := [a0.Tag]) (f := (eI .u8)) (parts := [(0, (.int .u8 a0.Tag))]) rfl rfl rfl rfl rfl rfl (fc ⟨rfl, rfl⟩ (fun p hp => nomatch hp)) rfl)) rfl rfl ?_
  have hv4 : Xa8 (eI .u8) (some [a0.Tag]) _ := ⟨.full, rfl⟩
  refine k_ (v := (.str (Str.of (some [a0.Tag])))) rfl (nz (Xaw hv4.frz rfl) (Xb9 rfl hv4 rfl rfl rfl)) rfl rfl <| wh _ rfl rfl <| wh _ rfl rfl ?_
  obtain ⟨y5, hy5, h⟩ := Xaf h
  refine Clh (.str y5) [(.int .i64 (Str.len y2b.1))] rfl rfl (s64 _ hy5 rfl) ?_
  obtain ⟨z6, hz6, h⟩ := Xaf h
  refine k_ (v := .str z6) rfl (nz rfl (Xcc rfl rfl hz6)) rfl rfl <| wh _ rfl rfl <| f_ ?_
  obtain ⟨z7, hz7, h⟩ := Xaf h
  refine w (.str z7) rfl (nz rfl (Xcc rfl rfl hz7)) <| us 2 rfl <| A_ <| C_ <| Q_ ?_
  cases oi h
  refine Z_ (vs := [(.str z7), (.bool true)]) (T_ rfl (T_ rfl Xas)) (L_ rfl (L_ rfl rfl)) ?_
  exact rfl
def Xgu (rc0 : Xab → Option Int) (k : Nat) (a2 : Xab) : Nat → Int → Int → Option (Int × Int)
 | 0, _, _ => none
 | n + 1, x3, x4 =>
  if decide (x4 < (Sl.len a2.Kids)) then
  (Sl.at? a2.Kids x4).bind fun y5 =>
  (rc0 y5).bind fun y6 =>
  Xgu rc0 k a2 n (Xtw x3 y6) (ad .i64 x4 1)
  else
  some (x3, x4)
def F29 : Nat → Xab → Option Int
 | 0, _ => none
 | k + 1, a0 =>
  (Xgu (F29 k) k a0 k 0 0).bind fun y1 =>
  some (ad .i64 y1.1 1)
theorem XsO {rc0 : Xab → Option Int} (hrc0 : ∀ {a0 : Xab} {r : Int}, rc0 a0 = some r → Q 29 [(.agg (Xaa a0))] (.int .i64 r)) {k : Nat} {a2 : Xab} {S0 : List SObj} {R : List Nat} {K : KX} {i1 : Nat} (hi1 : S0.length ≤ i1)  {o : (Int × Int)}
  (hbrk : EK [(3, (.int .i64 o.1))] S0 R [(i1, .cells (Xaa a2))] [] [] (K (.exit 0))) :
  ∀ {n : Nat} {x3 : Int} {x4 : Int}, Xgu rc0 k a2 n x3 x4 = some o → ∀ {σ : Nat → PV} {S : List SObj}, Xa2 [(1, (.ptr i1 0)), (3, (.int .i64 x3)), (4, (.int .i64 x4))] σ → Hp S0 R S [(i1, .cells (Xaa a2))] [] [] → WC env ⟨22, S0.length⟩ (.loop Xsa) σ S false K := by
 intro n
 induction n with
 | zero => intro _ _ h; cases h
 | succ n ih =>
  intro x3 x4 h σ S  hk H
  rw [Xgu] at h
  refine b_ <| X_ hk <| I_ <| B_ <| us 2 rfl <| Wg H 0 rfl <| Wl rfl <| us 1 rfl <| A_ ?_
  rcases Xa1 h with ⟨hc5, h⟩ | ⟨hc5, h⟩
  refine F_ rfl hc5 <| M_ <| C_ <| I_ <| R_ <| S_ <| us 2 rfl <| Wg H 0 rfl <| us 1 rfl ?_
  obtain ⟨y6, hy6, h⟩ := Xaf h
  refine Wx hy6 (XaD _) rfl <| us 1 rfl ?_
  obtain ⟨y7, hy7, h⟩ := Xaf h
  refine Cl (.int .i64 y7) [(.agg (Xaa y6))] rfl rfl (sv (hrc0 hy7)) <| us 2 rfl <| A_ <| V_ <| C_ <| S_ <| us 3 rfl <| A_ <| C_ ?_
  exact ih h  kn (hs H)
  refine G_ rfl hc5 <| Y_ <| K_ <| K_ ?_
  cases oi h
  exact hbrk  kn (hs H)
theorem s29 : ∀ k : Nat, ∀ {a0 : Xab} {r : Int}, F29 k a0 = some r → Q 29 [(.agg (Xaa a0))] (.int .i64 r) := by
 intro k
 induction k with
 | zero => intro _ r h; cases h
 | succ k ih =>
  intro a0 r h
  rw [F29] at h
  refine Qg (pf := XvN) rfl cq rfl fun H => ?_
  refine B_ <| Wb H rfl ?_
  intro i1 S hi1 H
  refine us 1 rfl <| A_ <| B_ <| us 1 rfl <| A_ <| I_ <| B_ <| us 1 rfl <| A_ ?_
  obtain ⟨y2, hy2, hOy2⟩ := Xaf h
  refine R_ ?_
  refine XsO ih hi1 ?_ hy2  kn (hs H)
  intro σ S  hk H; replace h := hOy2
  refine J_ hk <| U_ <| C_ <| B_ <| us 3 rfl <| A_ <| Q_ ?_
  cases oi h
  exact Kr (.int .i64 (ad .i64 y2.1 1)) rfl rfl
def F10 (k : Nat) (a0 : Xay) : Option (Str × Int) :=
 (F12 k a0).bind fun y2 =>
 if !y2 then
 some ([], 14)
 else
 (F26 k 2 a0.ID).bind fun y4 =>
 (F27 k a0).bind fun y5 =>
 (F25 k 48 (some [y4, y5])).bind fun y7 =>
 (F28 k y7).bind fun y1 =>
 if (!y1.2) || (decide ((Str.len y1.1) > 4000)) then
 some ([], 13)
 else
 (F29 k y7).bind fun y3 =>
 if decide (y3 > 20) then
 some ([], 12)
 else
 some (y1.1, 0)
theorem s10 : ∀ k : Nat, ∀ {a0 : Xay} {r : Str × Int}, F10 k a0 = some r → Q 10 [(.agg (Xak a0))] (.tup [(.str r.1), (.int .i64 r.2)]) := by
 intro k a0 r h
 unfold F10 at h
 refine Qg (pf := XvP) rfl cq rfl fun H => ?_
 refine B_ <| Wb H rfl ?_
 intro i1 S hi1 H
 refine us 2 rfl <| A_ <| I_ <| B_ <| Wg H 0 rfl ?_
 obtain ⟨y2, hy2, h⟩ := Xaf h
 refine Cl (.bool y2) [(.agg (Xak a0))] rfl rfl (sv (s12 _ hy2)) <| us 1 rfl <| A_ ?_
 rcases Xa1 h with ⟨hc3, h⟩ | ⟨hc3, h⟩
 refine F_ rfl hc3 <| B_ <| us 2 rfl <| A_ <| Q_ <| H_ ?_
 cases oi h
 refine Z_ (vs := [(.str []), (.int .i64 14)]) (T_ rfl (T_ rfl Xas)) (L_ rfl (L_ rfl rfl)) ?_
 exact rfl
 refine G_ rfl hc3 <| M_ <| C_ <| I_ <| j_ <| wk _ rfl rfl rfl rfl <| wkl H 0 rfl rfl rfl rfl ?_
 obtain ⟨y4, hy4, h⟩ := Xaf h
 refine WK.step (v := (.agg (Xaa y4))) rfl (pz rfl rfl (show List.map PV.strip [(.int .u8 2), (.int .i64 a0.ID)] = [(.int .u8 2), (.int .i64 a0.ID)] from rfl) rfl (s26 _ hy4 (show List.map PV.strip [(.int .u8 2), (.int .i64 a0.ID)] = [(.int .u8 2), (.int .i64 a0.ID)] from rfl) []) cq (by simp only [Xax, List.map_cons, List.map_nil, Xap, Xaq, Xai, Xad, Xal])) rfl rfl rfl rfl <| wkl H 0 rfl rfl rfl rfl ?_
 obtain ⟨y5, hy5, h⟩ := Xaf h
 refine WK.step (v := (.agg (Xaa y5))) rfl (pz rfl rfl (show List.map PV.strip [(.agg (Xak a0))] = [(.agg (Xak a0))] from (by simp only [Xax, List.map_cons, List.map_nil, Xap, Xaq, Xai, XbN, Xal, XbH])) cq (s27 _ hy5 (show List.map PV.strip [(.agg (Xak a0))] = [(.agg (Xak a0))] from (by simp only [XaX, XdD, Xax, List.map_cons, List.map_nil, Xap, Xaq, Xai, XbN, Xal, XbH])) []) cq (by simp only [Xax, List.map_cons, List.map_nil, Xap, Xaq, Xai, Xad, Xal])) rfl rfl rfl rfl <| WK.step rfl (nz rfl (Xaj (ys := [y4, y5]) (f := Xac) (parts := [(0, (.agg (Xaa y4))), (1, (.agg (Xaa y5)))]) rfl rfl rfl rfl rfl (by simp only [Xax, List.map_cons, List.map_nil, Xap, Xaq, Xai, Xad, Xal]) (fc ⟨rfl, rfl⟩ (fc ⟨rfl, rfl⟩ (fun p hp => nomatch hp))) rfl)) rfl rfl rfl rfl ?_
 have hv6 : Xa8 Xac (some [y4, y5]) _ := ⟨.full, rfl⟩
 obtain ⟨y7, hy7, h⟩ := Xaf h
 refine WK.step (v := (.agg (Xaa y7))) rfl (pz (fo rfl (Xaw hv6.frz rfl)) rfl (show List.map PV.strip [(.int .u8 48), (.lst (List.map Xac [y4, y5]) .full)] = [(.int .u8 48), (Xar Xac (some [y4, y5]))] from (by simp only [XaI, hv6.strip, XaX, Xa3, eI, eB, eS, List.map_cons, List.map_nil, Xal])) cq (s25 _ hy7 (show List.map PV.strip [(.int .u8 48), (Xar Xac (some [y4, y5]))] = [(.int .u8 48), (Xar Xac (some [y4, y5]))] from (by simp only [XaX, XdD, XaI, XbS, Xa3, eI, eB, eS, List.map_cons, List.map_nil, Xal])) []) cq (by simp only [Xax, List.map_cons, List.map_nil, Xap, Xaq, Xai, Xad, Xal])) rfl rfl rfl (Xfz (fc rfl (fc hv6.notRow (fun p hp => nomatch hp)))) ?_
 have Hh9 := H
 refine WK.alloc' (ti := XbA) rfl rfl rfl rfl H ?_
 intro i8 S hi8 H
 refine ⟨(Xah (ld (H.get 1 rfl) rfl) (Xah (ld (H.get 1 rfl) rfl) Xa9)), ?_⟩
 refine WK.nil <| Ws 0 H hi8 rfl ?_
 intro S H
 refine A_ <| C_ <| B_ <| Wg H 0 rfl ?_
 obtain ⟨y10, hy10, h⟩ := Xaf h
 refine Cl (.tup [(.str y10.1), (.bool y10.2)]) [(.agg (Xaa y7))] rfl rfl (sv (s28 _ hy10)) <| us 5 rfl <| A_ <| I_ <| R_ <| B_ <| us 1 rfl <| w (.bool (!y10.2)) rfl rfl <| w (.bool (!y10.2)) rfl rfl ?_
 refine O_ 4 (SH H [(4, (.ptr i8 0)), (5, (.str y10.1)), (29, (.bool ((!y10.2) || (decide ((Str.len y10.1) > 4000)))))]) ?_ ?_
 revert H
 cases hc11 : (!y10.2)
 intro H
 refine us 4 rfl <| A_ ?_
 exact kf H
 intro H
 refine us 4 rfl <| A_ ?_
 exact kf H
 rintro σ S e ⟨hk, H, rfl⟩
 refine E_ hk <| us 1 rfl <| A_ ?_
 rcases Xa1 h with ⟨hc12, h⟩ | ⟨hc12, h⟩
 refine F_ rfl hc12 <| B_ <| us 2 rfl <| A_ <| Q_ <| P_ <| H_ ?_
 cases oi h
 refine Z_ (vs := [(.str []), (.int .i64 13)]) (T_ rfl (T_ rfl Xas)) (L_ rfl (L_ rfl rfl)) ?_
 exact rfl
 refine G_ rfl hc12 <| B_ <| Wg H 0 rfl ?_
 obtain ⟨y13, hy13, h⟩ := Xaf h
 refine Cl (.int .i64 y13) [(.agg (Xaa y7))] rfl rfl (sv (s29 _ hy13)) <| us 2 rfl <| A_ ?_
 rcases Xa1 h with ⟨hc14, h⟩ | ⟨hc14, h⟩
 refine F_ rfl hc14 <| B_ <| us 2 rfl <| A_ <| Q_ <| P_ <| H_ ?_
 cases oi h
 refine Z_ (vs := [(.str []), (.int .i64 12)]) (T_ rfl (T_ rfl Xas)) (L_ rfl (L_ rfl rfl)) ?_
 exact rfl
 refine G_ rfl hc14 <| M_ <| V_ <| C_ <| B_ <| us 3 rfl <| A_ <| Q_ ?_
 cases oi h
 refine Z_ (vs := [(.str y10.1), (.int .i64 0)]) (T_ rfl (T_ rfl Xas)) (L_ rfl (L_ rfl rfl)) ?_
 exact rfl
end Go.Proofs.YtbinlabnilidiaaGreatDoor.M
