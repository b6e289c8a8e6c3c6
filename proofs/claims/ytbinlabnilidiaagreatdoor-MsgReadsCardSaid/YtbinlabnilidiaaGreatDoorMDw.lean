/- Part of the proof: the runs of functions on the abstract machine. -/
import Derived.Test.YtbinlabnilidiaaGreatDoorPamM4
import Derived.Test.YtbinlabnilidiaaGreatDoorFns
import Derived.Test.YtbinlabnilidiaaGreatDoorMDe
import Derived.Test.YtbinlabnilidiaaGreatDoorMDc
import Derived.Test.YtbinlabnilidiaaGreatDoorMDc1
namespace Go.Proofs.YtbinlabnilidiaaGreatDoor.M
open Go Go.Pam Go.RowKit Go.WideShapes
set_option maxRecDepth 8000
set_option linter.unusedVariables false
set_option linter.unusedSimpArgs false
def F19 (k : Nat) (a0 : Int) (a1 : Sl Xab) : Option Xab :=
 some (Xab.mk a0 [] a1)
theorem s19 : ∀ k : Nat, ∀ {a0 : Int} {a1 : Sl Xab} {r : Xab}, F19 k a0 a1 = some r → Q 19 [(.int .u8 a0), (Xar Xac a1)] (.agg (Xaa r)) := by
 intro k a0 a1 r h vs ha S
 unfold F19 at h
 refine e_ (pf := Xt0) rfl rfl ha (D_ rfl) cq cq ?_
 refine o_ (pf := Xt0) rfl ?_
 have H := g_ []
 refine B_ <| Wa (ti := XbA) H rfl ?_
 intro i1 S hi1 H
 refine A_ <| B_ <| us 2 rfl <| w (.agg [(.int .u8 a0), (.str []), (Xar Xac a1)]) rfl (nz (Xaw rfl (fe rfl rfl)) (XaH (ti := XbA) rfl rfl rfl rfl rfl (Xav rfl rfl rfl rfl (D_ rfl) rfl (Xav rfl (c_ _ _).one.1 (c_ _ _).one.2 rfl (D_ rfl) rfl rfl)))) <| Ws 0 H hi1 rfl ?_
 intro S H
 refine A_ <| Q_ ?_
 cases oi h
 refine Z_ (vs := [(.agg [(.int .u8 a0), (.str []), (Xar Xac a1)])]) (Xa0 rfl (H.get 0 rfl) rfl Xas) (L_ rfl rfl) ?_
 exact (by simp only [Xa7, List.map_cons, List.map_nil, Xal, Xax, Xap, Xaq, Xai, Xad, Xaa])
def F20 (k : Nat) (a0 : Int) (a1 : Str) : Option Xab :=
 some (Xab.mk a0 a1 none)
theorem s20 : ∀ k : Nat, ∀ {a0 : Int} {a1 : Str} {r : Xab}, F20 k a0 a1 = some r → Q 20 [(.int .u8 a0), (.str a1)] (.agg (Xaa r)) := by
 intro k a0 a1 r h vs ha S
 unfold F20 at h
 refine e_ (pf := Xt1) rfl rfl ha (D_ rfl) rfl cq ?_
 refine o_ (pf := Xt1) rfl ?_
 have H := g_ []
 refine B_ <| Wa (ti := XbA) H rfl ?_
 intro i1 S hi1 H
 refine A_ <| B_ <| us 2 rfl <| w (.agg [(.int .u8 a0), (.str a1), .nils]) rfl (nz rfl (XaH (ti := XbA) rfl rfl rfl rfl rfl (Xav rfl rfl rfl rfl (D_ rfl) rfl (Xav rfl rfl rfl rfl (D_ rfl) rfl rfl)))) <| Ws 0 H hi1 rfl ?_
 intro S H
 refine A_ <| Q_ ?_
 cases oi h
 refine Z_ (vs := [(.agg [(.int .u8 a0), (.str a1), .nils])]) (Xa0 rfl (H.get 0 rfl) rfl Xas) (L_ rfl rfl) ?_
 exact (by simp only [Xa7, List.map_cons, List.map_nil, Xal, Xax, Xap, Xaq, Xbp, Xbc, Xad, Xaa])
def XcT (k : Nat) : Nat → (Sl Int) → Int → Option (Out Str ((Sl Int) × Int))
 | 0, _, _ => none
 | n + 1, x0, x1 =>
  (Sl.at? x0 0).bind fun y2 =>
  (if (Xej .u8 y2 128) != 0 then
  some (-1)
  else
  some 0).bind fun y3 =>
  if x1 == y3 then
  some (Out.ret (Str.of x0))
  else
  (Sl.app? 1 (some [cv .u8 x1]) (Sl.l x0)).bind fun z4 =>
  (Xln .i64 x1 8).bind fun z5 =>
  XcT k n z4 z5
def F51 (k : Nat) (a0 : Int) : Option Str :=
 (Xln .i64 a0 8).bind fun z2 =>
 (XcT k k (some [cv .u8 a0]) z2).bind fun y1 =>
 match y1 with
 | .ret y1r => some y1r
 | .brk y1b =>
 none
theorem Xs6 {k : Nat} {S0 : List SObj} {R : List Nat} {K : KX}  {o : Out Str ((Sl Int) × Int)}
  (hret : ∀ r : Str, o = .ret r → EK [(2, (.str r))] S0 R [] [] [] (K .ret))
  (hbrk : ∀ y : (Sl Int) × Int, o = .brk y → ∀ {σ' : Nat → PV} {S' : List SObj}, ∀ (v1 : PV) (_ : Xa8 (eI .u8) y.1 v1), Xa2 [(3, v1)] σ' → Hp S0 R S' [] [] [] → K (.exit 0) σ' S' false) :
  ∀ {n : Nat} {x2 : Sl Int} {x3 : Int}, XcT k n x2 x3 = some o → ∀ {σ : Nat → PV} {S : List SObj}, ∀ (v4 : PV) (_ : Xa8 (eI .u8) x2 v4), Xa2 [(3, v4), (4, (.int .i64 x3))] σ → Hp S0 R S [] [] [] → WC env ⟨28, S0.length⟩ (.loop Xqd) σ S false K := by
 intro n
 induction n with
 | zero => intro _ _ h; cases h
 | succ n ih =>
  intro x2 x3 h σ S v4 hv4 hk H
  rw [XcT] at h
  refine b_ <| X_ hk <| I_ <| R_ <| B_ <| us 1 rfl <| A_ <| I_ <| B_ <| w v4 rfl rfl ?_
  obtain ⟨y6, hy6, h⟩ := Xaf h
  refine w (.iptr [(.int .u8 y6)] 0) rfl (nz rfl (Xbv rfl hv4 rfl rfl rfl hy6 rfl rfl)) <| us 3 rfl <| A_ ?_
  obtain ⟨y7, hy7, hOy7⟩ := Xaf h
  refine a_ (SJ [(3, v4), (4, (.int .i64 x3)), (5, (.int .i64 y7))] S0 R [] [] [] false) ?_ ?_
  replace h := hy7
  rcases Xa1 h with ⟨hc8, h⟩ | ⟨hc8, h⟩
  refine F_ rfl hc8 <| S_ <| us 1 rfl <| A_ <| C_ ?_
  cases oi h
  exact kh H
  refine G_ rfl hc8 <| M_ <| C_ ?_
  cases oi h
  exact kh H
  rintro σ S e ⟨hk, H, rfl⟩
  replace h := hOy7
  refine J_ hk <| C_ <| I_ <| B_ <| us 3 rfl <| A_ ?_
  rcases Xa1 h with ⟨hc9, h⟩ | ⟨hc9, h⟩
  refine F_ rfl hc9 <| B_ <| w v4 rfl rfl <| w (.str (Str.of x2)) rfl (nz (Xaw hv4.frz rfl) (Xb9 rfl hv4 rfl rfl rfl)) <| us 1 rfl <| A_ <| Q_ <| H_ <| P_ <| H_ <| H_ ?_
  cases oi h
  exact hret _ rfl kn (hs H)
  refine G_ rfl hc9 <| M_ <| C_ <| S_ <| us 2 rfl <| WS rfl (nz rfl (Xaj (ys := [cv .u8 x3]) (f := (eI .u8)) (parts := [(0, (.int .u8 (cv .u8 x3)))]) rfl rfl rfl rfl rfl rfl (fc ⟨rfl, rfl⟩ (fun p hp => nomatch hp)) rfl)) ?_
  have hv10 : Xa8 (eI .u8) (some [cv .u8 x3]) _ := ⟨.full, rfl⟩
  refine w v4 rfl rfl ?_
  obtain ⟨z11, hz11, h⟩ := Xaf h
  have H := H.addFull (List.map (eI .u8) [cv .u8 x3]) 1 (Xcv (f := (eI .u8)) (fun _ => rfl) _)
  refine WO.ex rfl (nzx (Xaw hv4.frz rfl) (Xb0 (f := (eI .u8)) (ei := ty5) H 0 rfl rfl hv10 rfl hv4 rfl rfl rfl rfl (fun _ => rfl) hz11)) ?_
  rintro v12 S ⟨hv12, H⟩
  refine w v12 rfl rfl <| A_ <| V_ <| C_ <| S_ <| us 1 rfl ?_
  obtain ⟨z13, hz13, h⟩ := Xaf h
  refine w (.int .i64 z13) rfl (nz rfl (XfU rfl rfl hz13)) <| us 1 rfl <| A_ <| C_ ?_
  exact ih h v12 (hv12) kn (H.sub .slnil (.cons _ .slnil) .slnil)
theorem s51 : ∀ k : Nat, ∀ {a0 : Int} {r : Str}, F51 k a0 = some r → Q 51 [(.int .i64 a0)] (.str r) := by
 intro k a0 r h
 unfold F51 at h
 refine Qg (pf := XuK) rfl rfl rfl fun H => ?_
 refine B_ <| us 1 rfl <| A_ <| B_ <| us 2 rfl <| WS rfl (nz rfl (Xaj (ys := [cv .u8 a0]) (f := (eI .u8)) (parts := [(0, (.int .u8 (cv .u8 a0)))]) rfl rfl rfl rfl rfl rfl (fc ⟨rfl, rfl⟩ (fun p hp => nomatch hp)) rfl)) ?_
 have hv1 : Xa8 (eI .u8) (some [cv .u8 a0]) _ := ⟨.full, rfl⟩
 refine us 1 rfl <| A_ <| B_ <| us 1 rfl ?_
 obtain ⟨z2, hz2, h⟩ := Xaf h
 refine w (.int .i64 z2) rfl (nz rfl (XfU rfl rfl hz2)) <| us 1 rfl <| A_ ?_
 obtain ⟨y3, hy3, hOy3⟩ := Xaf h
 refine R_ ?_
 refine Xs6 ?_ ?_ hy3 (.lst (List.map (eI .u8) [cv .u8 a0]) .full) (hv1) kn (hs H)
 intro y3r he σ S  hk H; subst he; replace h := hOy3; dsimp only at h
 refine J_ hk <| P_ ?_
 have h := oi h; subst h
 exact Kr (.str y3r) rfl rfl
 intro y3b he σ S v4 hv4 hk H; subst he; replace h := hOy3; dsimp only at h
 refine J_ hk <| U_ ?_
 cases h
def F22 (k : Nat) (a0 : Int) (a1 : Int) : Option Xab :=
 (F51 k a1).bind fun y2 =>
 (F20 k a0 y2).bind fun y3 =>
 some y3
theorem s22 : ∀ k : Nat, ∀ {a0 : Int} {a1 : Int} {r : Xab}, F22 k a0 a1 = some r → Q 22 [(.int .u8 a0), (.int .i64 a1)] (.agg (Xaa r)) := by
 intro k a0 a1 r h vs ha S
 unfold F22 at h
 refine e_ (pf := Xt2) rfl rfl ha (D_ rfl) rfl cq ?_
 refine o_ (pf := Xt2) rfl ?_
 have H := g_ []
 refine B_ <| Wa (ti := XbA) H rfl ?_
 intro i1 S hi1 H
 refine A_ <| B_ <| us 2 rfl ?_
 obtain ⟨y2, hy2, h⟩ := Xaf h
 refine Cl (.str y2) [(.int .i64 a1)] rfl rfl (s51 _ hy2 rfl) ?_
 obtain ⟨y3, hy3, h⟩ := Xaf h
 refine Cl (.agg (Xaa y3)) [(.int .u8 a0), (.str y2)] rfl rfl (s20 _ hy3 rfl) <| Ws 0 H hi1 rfl ?_
 intro S H
 refine A_ <| Q_ ?_
 have h := oi h; subst h
 refine Z_ (vs := [(.agg (Xaa y3))]) (Xa0 rfl (H.get 0 rfl) rfl Xas) (L_ rfl rfl) ?_
 exact (by simp only [Xa7, List.map_cons, List.map_nil, Xal, Xax, Xap, Xaq, Xai, Xad, Xaa])
def F79 (k : Nat) (a0 : Bool) : Option Str :=
 if a0 then
 some (Str.of (some [255]))
 else
 some [0]
theorem s79 : ∀ k : Nat, ∀ {a0 : Bool} {r : Str}, F79 k a0 = some r → Q 79 [(.bool a0)] (.str r) := by
 intro k a0 r h
 unfold F79 at h
 refine Qg (pf := XuN) rfl rfl rfl fun H => ?_
 refine B_ <| us 1 rfl <| A_ <| I_ <| B_ <| us 1 rfl <| A_ ?_
 rcases Xa1 h with ⟨hc4, h⟩ | ⟨hc4, h⟩
 refine F_ rfl hc4 <| B_ <| WS rfl (nz rfl (Xaj (ys := [255]) (f := (eI .u8)) (parts := [(0, (.int .u8 255))]) rfl rfl rfl rfl rfl rfl (fc ⟨rfl, rfl⟩ (fun p hp => nomatch hp)) rfl)) ?_
 have hv3 : Xa8 (eI .u8) (some [255]) _ := ⟨.full, rfl⟩
 refine w (.str (Str.of (some [255]))) rfl (nz (Xaw hv3.frz rfl) (Xb9 rfl hv3 rfl rfl rfl)) <| us 1 rfl <| A_ <| Q_ <| H_ ?_
 cases oi h
 exact Kr (.str (Str.of (some [255]))) rfl rfl
 refine G_ rfl hc4 <| M_ <| C_ <| B_ <| us 1 rfl <| A_ <| Q_ ?_
 cases oi h
 exact Kr (.str [0]) rfl rfl
def F48 (k : Nat) (a0 : Bool) : Option Xab :=
 (F79 k a0).bind fun y2 =>
 (F20 k 1 y2).bind fun y3 =>
 some y3
theorem s48 : ∀ k : Nat, ∀ {a0 : Bool} {r : Xab}, F48 k a0 = some r → Q 48 [(.bool a0)] (.agg (Xaa r)) := by
 intro k a0 r h vs ha S
 unfold F48 at h
 refine e_ (pf := Xt3) rfl rfl ha (D_ rfl) rfl cq ?_
 refine o_ (pf := Xt3) rfl ?_
 have H := g_ []
 refine B_ <| Wa (ti := XbA) H rfl ?_
 intro i1 S hi1 H
 refine A_ <| B_ <| us 1 rfl ?_
 obtain ⟨y2, hy2, h⟩ := Xaf h
 refine Cl (.str y2) [(.bool a0)] rfl rfl (s79 _ hy2 rfl) ?_
 obtain ⟨y3, hy3, h⟩ := Xaf h
 refine Cl (.agg (Xaa y3)) [(.int .u8 1), (.str y2)] rfl rfl (s20 _ hy3 rfl) <| Ws 0 H hi1 rfl ?_
 intro S H
 refine A_ <| Q_ ?_
 have h := oi h; subst h
 refine Z_ (vs := [(.agg (Xaa y3))]) (Xa0 rfl (H.get 0 rfl) rfl Xas) (L_ rfl rfl) ?_
 exact (by simp only [Xa7, List.map_cons, List.map_nil, Xal, Xax, Xap, Xaq, Xai, Xad, Xaa])
def Xgk (rc0 : Xae → Option Xab) (k : Nat) (a1 : Int) (a2 : Sl Xae) (a3 : Int) (a4 : Xab) : Nat → (Sl Xab) → Int → Option ((Sl Xab) × Int)
 | 0, _, _ => none
 | n + 1, x5, x6 =>
  if decide (x6 < a3) then
  (Sl.at? a2 x6).bind fun y7 =>
  (rc0 y7).bind fun y8 =>
  (Sl.app? 48 x5 (Sl.l (some [y8]))).bind fun z9 =>
  Xgk rc0 k a1 a2 a3 a4 n z9 (ad .i64 x6 1)
  else
  some (x5, x6)
def Xgl (rc0 : Xae → Option Xab) (k : Nat) (a1 : Int) (a2 : Sl Str) (a3 : Int) (a4 : Xab) (a5 : Xae) : Nat → (Sl Xab) → Int → Option ((Sl Xab) × Int)
 | 0, _, _ => none
 | n + 1, x6, x7 =>
  if decide (x7 < a3) then
  (Sl.at? a2 x7).bind fun y8 =>
  (if x7 == 0 then
  some 128
  else
  (if x7 == (sb .i64 (Sl.len a5.Subs) 1) then
  some 130
  else
  some 129).bind fun y9 =>
  some y9).bind fun y10 =>
  (if !(y8 == []) then
  (F20 k y10 y8).bind fun y11 =>
  (Sl.app? 48 x6 (Sl.l (some [y11]))).bind fun z12 =>
  some z12
  else
  some x6).bind fun y13 =>
  Xgl rc0 k a1 a2 a3 a4 a5 n y13 (ad .i64 x7 1)
  else
  some (x6, x7)
def F49 : Nat → Xae → Option Xab
 | 0, _ => none
 | k + 1, a0 =>
  (Sl.at? (some [0, 160, 161, 162, 163, 165, 166, 135, 164]) a0.Kind).bind fun y3 =>
  if a0.Kind == 7 then
  (F20 k y3 a0.Attr).bind fun y1 =>
  some y1
  else
  (if a0.Kind == 1 then
  some (a0.Kind == 1)
  else
  (if a0.Kind == 2 then
  some (a0.Kind == 2)
  else
  some (a0.Kind == 3)).bind fun y2 =>
  some y2).bind fun y4 =>
  if y4 then
  (Xgk (F49 k) k y3 a0.Kids (Sl.len a0.Kids) (Xab.mk 0 [] none) k none 0).bind fun y5 =>
  (F19 k y3 y5.1).bind fun y6 =>
  some y6
  else
  if a0.Kind == 8 then
  (Xgl (F49 k) k y3 a0.Subs (Sl.len a0.Subs) (Xab.mk 0 [] none) a0 k none 0).bind fun y7 =>
  (F20 k 4 a0.Attr).bind fun y8 =>
  (F19 k 48 y7.1).bind fun y9 =>
  (F19 k y3 (some [y8, y9])).bind fun y10 =>
  some y10
  else
  (F20 k 4 a0.Attr).bind fun y11 =>
  (F20 k 4 a0.Value).bind fun y12 =>
  (F19 k y3 (some [y11, y12])).bind fun y13 =>
  some y13
theorem Xs7 {rc0 : Xae → Option Xab} (hrc0 : ∀ {a0 : Xae} {r : Xab}, rc0 a0 = some r → Q 49 [(.agg (Xag a0))] (.agg (Xaa r))) {k : Nat} {a1 : Int} {a3 : Sl Xae} {a4 : Int} {a5 : Xab} {S0 : List SObj} {R : List Nat} {K : KX} {i2 : Nat} (hi2 : S0.length ≤ i2)  {o : ((Sl Xab) × Int)}
  (hbrk : ∀ {σ' : Nat → PV} {S' : List SObj}, ∀ (v6 : PV) (_ : Xa8 Xac o.1 v6), Xa2 [(2, (.ptr i2 0)), (3, (.int .u8 a1)), (4, v6)] σ' → Hp S0 R S' [(i2, .cells (Xau a5 .nils))] [(v6, 3)] [] → K (.exit 1) σ' S' false) :
  ∀ {n : Nat} {x7 : Sl Xab} {x8 : Int}, Xgk rc0 k a1 a3 a4 a5 n x7 x8 = some o → ∀ {σ : Nat → PV} {S : List SObj}, ∀ (v9 : PV) (_ : Xa8 Xac x7 v9), Xa2 [(2, (.ptr i2 0)), (3, (.int .u8 a1)), (4, v9), (28, (Xar Xan a3)), (29, (.int .i64 a4)), (30, (.int .i64 x8))] σ → Hp S0 R S [(i2, .cells (Xau a5 .nils))] [(v9, 3)] [] → WC env ⟨87, S0.length⟩ (.loop Xqi) σ S false K := by
 intro n
 induction n with
 | zero => intro _ _ h; cases h
 | succ n ih =>
  intro x7 x8 h σ S v9 hv9 hk H
  rw [Xgk] at h
  refine b_ <| X_ hk <| B_ <| us 1 rfl <| A_ <| I_ ?_
  rcases Xa1 h with ⟨hc10, h⟩ | ⟨hc10, h⟩
  refine F_ rfl hc10 <| M_ <| C_ <| I_ <| R_ <| B_ ?_
  obtain ⟨y11, hy11, h⟩ := Xaf h
  refine Wx hy11 (XaA _) rfl <| us 1 rfl <| Wa (ti := Xlo) H rfl ?_
  intro i12 S hi12 H
  refine Ws 0 H hi12 rfl ?_
  intro S H
  refine A_ <| S_ <| w v9 rfl rfl <| Wg H 0 rfl ?_
  obtain ⟨y13, hy13, h⟩ := Xaf h
  refine Cl (.agg (Xaa y13)) [(.agg (Xag y11))] rfl rfl (sv (hrc0 hy13)) <| WS rfl (nz rfl (Xaj (ys := [y13]) (f := Xac) (parts := [(0, (.agg (Xaa y13)))]) rfl rfl rfl rfl rfl (by simp only [Xax, List.map_cons, List.map_nil, Xap, Xaq, Xai, Xad, Xal]) (fc ⟨rfl, rfl⟩ (fun p hp => nomatch hp)) rfl)) ?_
  have hv14 : Xa8 Xac (some [y13]) _ := ⟨.full, rfl⟩
  obtain ⟨z15, hz15, h⟩ := Xaf h
  refine WO.ex rfl (nzx (Xaw hv14.frz rfl) (Xb0 (f := Xac) (ei := XbA) H 0 rfl rfl hv9 rfl hv14 rfl rfl rfl rfl (fun a => (Xa4 a).2.1) hz15)) ?_
  rintro v16 S ⟨hv16, H⟩
  refine w v16 rfl rfl <| A_ <| V_ <| C_ <| S_ <| us 2 rfl <| A_ <| C_ ?_
  exact ih h v16 (hv16) kn (H.sub (.cons _ (.cons_cons _ .slnil)) (.cons_cons _ .slnil) .slnil)
  refine G_ rfl hc10 <| Y_ <| K_ <| K_ ?_
  cases oi h
  exact hbrk v9 (hv9) kn (hs H)
theorem Xs8 {rc0 : Xae → Option Xab} (hrc0 : ∀ {a0 : Xae} {r : Xab}, rc0 a0 = some r → Q 49 [(.agg (Xag a0))] (.agg (Xaa r))) {k : Nat} {a3 : Int} {a4 : Sl Str} {a5 : Int} {a6 : Xab} {a7 : Xae} {S0 : List SObj} {R : List Nat} {K : KX} {i2 : Nat} {i1 : Nat} (hi2 : S0.length ≤ i2) (hi1 : S0.length ≤ i1)  {o : ((Sl Xab) × Int)}
  (hbrk : ∀ {σ' : Nat → PV} {S' : List SObj}, ∀ (v8 : PV) (_ : Xa8 Xac o.1 v8), Xa2 [(1, (.ptr i1 0)), (2, (.ptr i2 0)), (3, (.int .u8 a3)), (7, v8)] σ' → Hp S0 R S' [(i2, .cells (Xau a6 .nils)), (i1, .cells (Xag a7))] [(v8, 3)] [] → K (.exit 3) σ' S' false) :
  ∀ {n : Nat} {x9 : Sl Xab} {x10 : Int}, Xgl rc0 k a3 a4 a5 a6 a7 n x9 x10 = some o → ∀ {σ : Nat → PV} {S : List SObj}, ∀ (v11 : PV) (_ : Xa8 Xac x9 v11), Xa2 [(1, (.ptr i1 0)), (2, (.ptr i2 0)), (3, (.int .u8 a3)), (7, v11), (46, (Xar eS a4)), (47, (.int .i64 a5)), (48, (.int .i64 x10))] σ → Hp S0 R S [(i2, .cells (Xau a6 .nils)), (i1, .cells (Xag a7))] [(v11, 3)] [] → WC env ⟨87, S0.length⟩ (.loop Xqj) σ S false K := by
 intro n
 induction n with
 | zero => intro _ _ h; cases h
 | succ n ih =>
  intro x9 x10 h σ S v11 hv11 hk H
  rw [Xgl] at h
  refine b_ <| X_ hk <| B_ <| us 1 rfl <| A_ <| I_ ?_
  rcases Xa1 h with ⟨hc12, h⟩ | ⟨hc12, h⟩
  refine F_ rfl hc12 <| M_ <| C_ <| I_ <| R_ <| B_ <| us 1 rfl ?_
  obtain ⟨y13, hy13, h⟩ := Xaf h
  refine Wx hy13 rfl rfl <| us 3 rfl <| A_ <| B_ <| us 1 rfl <| A_ <| I_ <| B_ <| us 2 rfl <| A_ ?_
  obtain ⟨y14, hy14, hOy14⟩ := Xaf h
  refine a_ (SJ [(1, (.ptr i1 0)), (2, (.ptr i2 0)), (3, (.int .u8 a3)), (7, v11), (9, (.str y13)), (10, (.int .u8 y14)), (46, (Xar eS a4)), (47, (.int .i64 a5)), (48, (.int .i64 x10))] S0 R [(i2, .cells (Xau a6 .nils)), (i1, .cells (Xag a7))] [(v11, 3)] [] false) ?_ ?_
  replace h := hy14
  rcases Xa1 h with ⟨hc15, h⟩ | ⟨hc15, h⟩
  refine F_ rfl hc15 <| S_ <| us 1 rfl <| A_ <| C_ ?_
  cases oi h
  exact kh H
  refine G_ rfl hc15 <| B_ <| us 2 rfl <| Wg H 1 rfl <| Wl rfl <| us 2 rfl <| A_ ?_
  obtain ⟨y16, hy16, hOy16⟩ := Xaf h
  refine a_ (SJ [(1, (.ptr i1 0)), (2, (.ptr i2 0)), (3, (.int .u8 a3)), (7, v11), (9, (.str y13)), (10, (.int .u8 y16)), (46, (Xar eS a4)), (47, (.int .i64 a5)), (48, (.int .i64 x10))] S0 R [(i2, .cells (Xau a6 .nils)), (i1, .cells (Xag a7))] [(v11, 3)] [] false) ?_ ?_
  replace h := hy16
  rcases Xa1 h with ⟨hc17, h⟩ | ⟨hc17, h⟩
  refine F_ rfl hc17 <| S_ <| us 1 rfl <| A_ <| C_ ?_
  cases oi h
  exact kh H
  refine G_ rfl hc17 <| M_ <| C_ ?_
  cases oi h
  exact kh H
  rintro σ S e ⟨hk, H, rfl⟩
  replace h := hOy16
  refine J_ hk <| C_ ?_
  cases oi h
  exact kh H
  rintro σ S e ⟨hk, H, rfl⟩
  replace h := hOy14
  refine J_ hk <| C_ <| B_ <| us 2 rfl <| A_ ?_
  obtain ⟨y18, hy18, hOy18⟩ := Xaf h
  refine a_ (fun σ' S' e' => ∃ v19, Xa8 Xac y18 v19 ∧ Xa2 ([(1, (.ptr i1 0)), (2, (.ptr i2 0)), (3, (.int .u8 a3)), (7, v19), (46, (Xar eS a4)), (47, (.int .i64 a5)), (48, (.int .i64 x10))]) σ' ∧ Hp S0 R S' [(i2, .cells (Xau a6 .nils)), (i1, .cells (Xag a7))] [(v19, 3)] [] ∧ e' = false) ?_ ?_
  replace h := hy18
  rcases Xa1 h with ⟨hc20, h⟩ | ⟨hc20, h⟩
  refine F_ rfl hc20 <| S_ <| w v11 rfl rfl <| us 2 rfl ?_
  obtain ⟨y21, hy21, h⟩ := Xaf h
  refine Cl (.agg (Xaa y21)) [(.int .u8 y14), (.str y13)] rfl rfl (s20 _ hy21 rfl) <| WS rfl (nz rfl (Xaj (ys := [y21]) (f := Xac) (parts := [(0, (.agg (Xaa y21)))]) rfl rfl rfl rfl rfl (by simp only [Xax, List.map_cons, List.map_nil, Xap, Xaq, Xai, Xad, Xal]) (fc ⟨rfl, rfl⟩ (fun p hp => nomatch hp)) rfl)) ?_
  have hv22 : Xa8 Xac (some [y21]) _ := ⟨.full, rfl⟩
  obtain ⟨z23, hz23, h⟩ := Xaf h
  refine WO.ex rfl (nzx (Xaw hv22.frz rfl) (Xb0 (f := Xac) (ei := XbA) H 0 rfl rfl hv11 rfl hv22 rfl rfl rfl rfl (fun a => (Xa4 a).2.1) hz23)) ?_
  rintro v24 S ⟨hv24, H⟩
  refine w v24 rfl rfl <| A_ <| C_ ?_
  cases oi h
  exact ⟨v24, hv24, kn, (hs H), rfl⟩
  refine G_ rfl hc20 <| M_ <| C_ ?_
  cases oi h
  exact ⟨v11, hv11, kn, (hs H), rfl⟩
  rintro σ S e ⟨v19, hv19, hk, H, rfl⟩
  replace h := hOy18
  refine J_ hk <| V_ <| C_ <| S_ <| us 2 rfl <| A_ <| C_ ?_
  exact ih h v19 (hv19) kn (hs H)
  refine G_ rfl hc12 <| Y_ <| K_ <| K_ ?_
  cases oi h
  exact hbrk v11 (hv11) kn (hs H)
theorem s49 : ∀ k : Nat, ∀ {a0 : Xae} {r : Xab}, F49 k a0 = some r → Q 49 [(.agg (Xag a0))] (.agg (Xaa r)) := by
 intro k
 induction k with
 | zero => intro _ r h; cases h
 | succ k ih =>
  intro a0 r h vs ha S
  rw [F49] at h
  refine e_ (pf := Xt4) rfl rfl ha (D_ rfl) cq cq ?_
  refine o_ (pf := Xt4) rfl ?_
  have H := g_ []
  refine B_ <| Wb H rfl ?_
  intro i1 S hi1 H
  refine Wa (ti := XbA) H rfl ?_
  intro i2 S hi2 H
  refine A_ <| B_ <| w (.agg z10_) rfl (nz rfl (Xcx (ti := XoC) (ei := ty5) rfl rfl rfl rfl rfl (Xav (cells' := [(.int .u8 0), (.int .u8 160), (.int .u8 0), (.int .u8 0), (.int .u8 0), (.int .u8 0), (.int .u8 0), (.int .u8 0), (.int .u8 0)]) rfl rfl rfl rfl (D_ rfl) rfl (Xav (cells' := [(.int .u8 0), (.int .u8 160), (.int .u8 161), (.int .u8 0), (.int .u8 0), (.int .u8 0), (.int .u8 0), (.int .u8 0), (.int .u8 0)]) rfl rfl rfl rfl (D_ rfl) rfl (Xav (cells' := [(.int .u8 0), (.int .u8 160), (.int .u8 161), (.int .u8 162), (.int .u8 0), (.int .u8 0), (.int .u8 0), (.int .u8 0), (.int .u8 0)]) rfl rfl rfl rfl (D_ rfl) rfl (Xav (cells' := [(.int .u8 0), (.int .u8 160), (.int .u8 161), (.int .u8 162), (.int .u8 163), (.int .u8 0), (.int .u8 0), (.int .u8 0), (.int .u8 0)]) rfl rfl rfl rfl (D_ rfl) rfl (Xav (cells' := [(.int .u8 0), (.int .u8 160), (.int .u8 161), (.int .u8 162), (.int .u8 163), (.int .u8 0), (.int .u8 0), (.int .u8 0), (.int .u8 164)]) rfl rfl rfl rfl (D_ rfl) rfl (Xav (cells' := [(.int .u8 0), (.int .u8 160), (.int .u8 161), (.int .u8 162), (.int .u8 163), (.int .u8 165), (.int .u8 0), (.int .u8 0), (.int .u8 164)]) rfl rfl rfl rfl (D_ rfl) rfl (Xav (cells' := [(.int .u8 0), (.int .u8 160), (.int .u8 161), (.int .u8 162), (.int .u8 163), (.int .u8 165), (.int .u8 166), (.int .u8 0), (.int .u8 164)]) rfl rfl rfl rfl (D_ rfl) rfl (Xav (cells' := z10_) rfl rfl rfl rfl (D_ rfl) rfl rfl)))))))))) <| us 1 rfl <| Wg H 1 rfl ?_
  obtain ⟨y3, hy3, h⟩ := Xaf h
  refine w (.int .u8 y3) rfl (nz rfl (XeR (f := (eI .u8)) (xs := [0, 160, 161, 162, 163, 165, 166, 135, 164]) rfl rfl rfl rfl rfl hy3)) <| us 1 rfl <| A_ <| I_ <| B_ <| us 1 rfl <| Wg H 1 rfl <| A_ <| R_ <| B_ <| us 2 rfl <| A_ ?_
  rcases Xa1 h with ⟨hc4, h⟩ | ⟨hc4, h⟩
  refine F_ rfl hc4 <| B_ <| us 2 rfl <| Wg H 1 rfl ?_
  obtain ⟨y6, hy6, h⟩ := Xaf h
  refine Cl (.agg (Xaa y6)) [(.int .u8 y3), (.str a0.Attr)] rfl rfl (s20 _ hy6 rfl) <| Ws 0 H hi2 rfl ?_
  intro S H
  refine A_ <| Q_ <| P_ <| H_ ?_
  have h := oi h; subst h
  refine Z_ (vs := [(.agg (Xaa y6))]) (Xa0 rfl (H.get 0 rfl) rfl Xas) (L_ rfl rfl) ?_
  exact (by simp only [Xa7, List.map_cons, List.map_nil, Xal, Xax, Xap, Xaq, Xai, Xad, Xaa])
  refine G_ rfl hc4 <| I_ <| B_ <| us 2 rfl <| A_ ?_
  obtain ⟨y7, hy7, hOy7⟩ := Xaf h
  refine a_ (SJ [(1, (.ptr i1 0)), (2, (.ptr i2 0)), (3, (.int .u8 y3)), (16, (.int .i64 a0.Kind)), (23, (.bool y7))] [] [] [(i2, .cells [(.int .u8 0), (.str []), .nils]), (i1, .cells (Xag a0))] [] [] false) ?_ ?_
  replace h := hy7
  rcases Xa1 h with ⟨hc8, h⟩ | ⟨hc8, h⟩
  refine F_ rfl hc8 <| M_ <| C_ ?_
  have h := oi h; subst h
  exact kh H
  refine G_ rfl hc8 <| B_ <| us 2 rfl <| A_ ?_
  obtain ⟨y9, hy9, hOy9⟩ := Xaf h
  refine a_ (SJ [(1, (.ptr i1 0)), (2, (.ptr i2 0)), (3, (.int .u8 y3)), (16, (.int .i64 a0.Kind)), (23, (.bool y9))] [] [] [(i2, .cells [(.int .u8 0), (.str []), .nils]), (i1, .cells (Xag a0))] [] [] false) ?_ ?_
  replace h := hy9
  rcases Xa1 h with ⟨hc10, h⟩ | ⟨hc10, h⟩
  refine F_ rfl hc10 <| M_ <| C_ ?_
  have h := oi h; subst h
  exact kh H
  refine G_ rfl hc10 <| S_ <| us 2 rfl <| A_ <| C_ ?_
  have h := oi h; subst h
  exact kh H
  rintro σ S e ⟨hk, H, rfl⟩
  replace h := hOy9
  refine J_ hk <| C_ ?_
  have h := oi h; subst h
  exact kh H
  rintro σ S e ⟨hk, H, rfl⟩
  replace h := hOy7
  refine J_ hk <| C_ ?_
  rcases Xa1 h with ⟨hc11, h⟩ | ⟨hc11, h⟩
  refine F_ rfl hc11 <| B_ <| us 1 rfl <| A_ <| I_ <| B_ <| us 1 rfl <| Wg H 1 rfl <| Wl rfl <| us 1 rfl <| A_ ?_
  obtain ⟨y12, hy12, hOy12⟩ := Xaf h
  refine R_ ?_
  have H := H.addNil 3
  refine Xs7 ih hi2 ?_ hy12 .nils ((Xam _)) kn (H.sub (.cons_cons _ (.cons _ .slnil)) (.cons_cons _ .slnil) .slnil)
  intro σ S v13 hv13 hk H; replace h := hOy12
  refine J_ hk <| U_ <| C_ <| B_ <| us 1 rfl <| w v13 rfl rfl ?_
  obtain ⟨y14, hy14, h⟩ := Xaf h
  refine Cl (.agg (Xaa y14)) [(.int .u8 y3), v13] rfl (Xaw rfl (Xaw hv13.frz rfl)) (s19 _ hy14 (by simp only [XaI, hv13.strip, List.map_cons, List.map_nil, Xal] <;> rfl)) <| Ws 0 H hi2 rfl ?_
  intro S H
  refine A_ <| Q_ <| P_ <| H_ ?_
  have h := oi h; subst h
  refine Z_ (vs := [(.agg (Xaa y14))]) (Xa0 rfl (H.get 0 rfl) rfl Xas) (L_ rfl rfl) ?_
  exact (by simp only [Xa7, List.map_cons, List.map_nil, Xal, Xax, Xap, Xaq, Xai, Xad, Xaa])
  refine G_ rfl hc11 <| B_ <| us 2 rfl <| A_ ?_
  rcases Xa1 h with ⟨hc15, h⟩ | ⟨hc15, h⟩
  refine F_ rfl hc15 <| B_ <| us 1 rfl <| A_ <| I_ <| B_ <| us 1 rfl <| Wg H 1 rfl <| Wl rfl <| us 1 rfl <| A_ ?_
  obtain ⟨y16, hy16, hOy16⟩ := Xaf h
  refine R_ ?_
  have H := H.addNil 3
  refine Xs8 ih hi2 hi1 ?_ hy16 .nils ((Xam _)) kn (hs H)
  intro σ S v17 hv17 hk H; replace h := hOy16
  refine J_ hk <| U_ <| C_ <| B_ <| us 2 rfl <| Wg H 1 rfl ?_
  obtain ⟨y18, hy18, h⟩ := Xaf h
  refine Cl (.agg (Xaa y18)) [(.int .u8 4), (.str a0.Attr)] rfl rfl (s20 _ hy18 rfl) <| w v17 rfl rfl ?_
  obtain ⟨y19, hy19, h⟩ := Xaf h
  refine Cl (.agg (Xaa y19)) [(.int .u8 48), v17] rfl (fo rfl (Xaw hv17.frz rfl)) (s19 _ hy19 (by simp only [XaI, hv17.strip, List.map_cons, List.map_nil, Xal] <;> rfl)) <| WS rfl (nz rfl (Xaj (ys := [y18, y19]) (f := Xac) (parts := [(0, (.agg (Xaa y18))), (1, (.agg (Xaa y19)))]) rfl rfl rfl rfl rfl (by simp only [Xax, List.map_cons, List.map_nil, Xap, Xaq, Xai, Xad, Xal]) (fc ⟨rfl, rfl⟩ (fc ⟨rfl, rfl⟩ (fun p hp => nomatch hp))) rfl)) ?_
  have hv20 : Xa8 Xac (some [y18, y19]) _ := ⟨.full, rfl⟩
  obtain ⟨y21, hy21, h⟩ := Xaf h
  refine Cl (.agg (Xaa y21)) [(.int .u8 y3), (.lst (List.map Xac [y18, y19]) .full)] rfl (Xaw rfl (Xaw hv20.frz rfl)) (s19 _ hy21 (by simp only [XaI, hv20.strip, XaX, Xa3, eI, eB, eS, List.map_cons, List.map_nil, Xal] <;> rfl)) <| Ws 0 H hi2 rfl ?_
  intro S H
  refine A_ <| Q_ <| P_ <| H_ ?_
  have h := oi h; subst h
  refine Z_ (vs := [(.agg (Xaa y21))]) (Xa0 rfl (H.get 0 rfl) rfl Xas) (L_ rfl rfl) ?_
  exact (by simp only [Xa7, List.map_cons, List.map_nil, Xal, Xax, Xap, Xaq, Xai, Xad, Xaa])
  refine G_ rfl hc15 <| M_ <| V_ <| C_ <| I_ <| h_ <| wh _ rfl rfl <| wh _ rfl rfl <| Wgh H 1 rfl ?_
  obtain ⟨y22, hy22, h⟩ := Xaf h
  refine Clh (.agg (Xaa y22)) [(.int .u8 4), (.str a0.Attr)] rfl rfl (s20 _ hy22 rfl) <| wh _ rfl rfl <| Wgh H 1 rfl ?_
  obtain ⟨y23, hy23, h⟩ := Xaf h
  refine Clh (.agg (Xaa y23)) [(.int .u8 4), (.str a0.Value)] rfl rfl (s20 _ hy23 rfl) <| k_ rfl (nz rfl (Xaj (ys := [y22, y23]) (f := Xac) (parts := [(0, (.agg (Xaa y22))), (1, (.agg (Xaa y23)))]) rfl rfl rfl rfl rfl (by simp only [Xax, List.map_cons, List.map_nil, Xap, Xaq, Xai, Xad, Xal]) (fc ⟨rfl, rfl⟩ (fc ⟨rfl, rfl⟩ (fun p hp => nomatch hp))) rfl)) rfl rfl ?_
  have hv24 : Xa8 Xac (some [y22, y23]) _ := ⟨.full, rfl⟩
  refine f_ ?_
  obtain ⟨y25, hy25, h⟩ := Xaf h
  refine Cl (.agg (Xaa y25)) [(.int .u8 y3), (.lst (List.map Xac [y22, y23]) .full)] rfl (Xaw rfl (Xaw hv24.frz rfl)) (s19 _ hy25 (by simp only [XaI, hv24.strip, XaX, Xa3, eI, eB, eS, List.map_cons, List.map_nil, Xal] <;> rfl)) <| Ws 0 H hi2 rfl ?_
  intro S H
  refine A_ <| C_ <| Q_ ?_
  have h := oi h; subst h
  refine Z_ (vs := [(.agg (Xaa y25))]) (Xa0 rfl (H.get 0 rfl) rfl Xas) (L_ rfl rfl) ?_
  exact (by simp only [Xa7, List.map_cons, List.map_nil, Xal, Xax, Xap, Xaq, Xai, Xad, Xaa])
def Xgm (k : Nat) (a0 : Str) (a1 : Sl Str) (a2 : Int) (a3 : Xab) : Nat → (Sl Xab) → Int → Option ((Sl Xab) × Int)
 | 0, _, _ => none
 | n + 1, x4, x5 =>
  if decide (x5 < a2) then
  (Sl.at? a1 x5).bind fun y6 =>
  (F20 k 4 y6).bind fun y7 =>
  (Sl.app? 48 x4 (Sl.l (some [y7]))).bind fun z8 =>
  Xgm k a0 a1 a2 a3 n z8 (ad .i64 x5 1)
  else
  some (x4, x5)
def F80 (k : Nat) (a0 : Str) (a1 : Sl Str) : Option Xab :=
 (Xgm k a0 a1 (Sl.len a1) (Xab.mk 0 [] none) k none 0).bind fun y2 =>
 (F20 k 4 a0).bind fun y3 =>
 (F19 k 49 y2.1).bind fun y4 =>
 (F19 k 48 (some [y3, y4])).bind fun y5 =>
 some y5
theorem Xs9 {k : Nat} {a2 : Str} {a3 : Sl Str} {a4 : Int} {a5 : Xab} {S0 : List SObj} {R : List Nat} {K : KX} {i1 : Nat} (hi1 : S0.length ≤ i1)  {o : ((Sl Xab) × Int)}
  (hbrk : ∀ {σ' : Nat → PV} {S' : List SObj}, ∀ (v6 : PV) (_ : Xa8 Xac o.1 v6), Xa2 [(0, (.str a2)), (4, (.ptr i1 0)), (5, v6)] σ' → Hp S0 R S' [(i1, .cells (Xau a5 .nils))] [(v6, 3)] [] → K (.exit 0) σ' S' false) :
  ∀ {n : Nat} {x7 : Sl Xab} {x8 : Int}, Xgm k a2 a3 a4 a5 n x7 x8 = some o → ∀ {σ : Nat → PV} {S : List SObj}, ∀ (v9 : PV) (_ : Xa8 Xac x7 v9), Xa2 [(0, (.str a2)), (4, (.ptr i1 0)), (5, v9), (8, (Xar eS a3)), (9, (.int .i64 a4)), (10, (.int .i64 x8))] σ → Hp S0 R S [(i1, .cells (Xau a5 .nils))] [(v9, 3)] [] → WC env ⟨26, S0.length⟩ (.loop Xqm) σ S false K := by
 intro n
 induction n with
 | zero => intro _ _ h; cases h
 | succ n ih =>
  intro x7 x8 h σ S v9 hv9 hk H
  rw [Xgm] at h
  refine b_ <| X_ hk <| B_ <| us 1 rfl <| A_ <| I_ ?_
  rcases Xa1 h with ⟨hc10, h⟩ | ⟨hc10, h⟩
  refine F_ rfl hc10 <| M_ <| C_ <| I_ <| R_ <| B_ ?_
  obtain ⟨y11, hy11, h⟩ := Xaf h
  refine Wx hy11 rfl rfl <| us 2 rfl <| A_ <| S_ <| w v9 rfl rfl <| us 1 rfl ?_
  obtain ⟨y12, hy12, h⟩ := Xaf h
  refine Cl (.agg (Xaa y12)) [(.int .u8 4), (.str y11)] rfl rfl (s20 _ hy12 rfl) <| WS rfl (nz rfl (Xaj (ys := [y12]) (f := Xac) (parts := [(0, (.agg (Xaa y12)))]) rfl rfl rfl rfl rfl (by simp only [Xax, List.map_cons, List.map_nil, Xap, Xaq, Xai, Xad, Xal]) (fc ⟨rfl, rfl⟩ (fun p hp => nomatch hp)) rfl)) ?_
  have hv13 : Xa8 Xac (some [y12]) _ := ⟨.full, rfl⟩
  obtain ⟨z14, hz14, h⟩ := Xaf h
  refine WO.ex rfl (nzx (Xaw hv13.frz rfl) (Xb0 (f := Xac) (ei := XbA) H 0 rfl rfl hv9 rfl hv13 rfl rfl rfl rfl (fun a => (Xa4 a).2.1) hz14)) ?_
  rintro v15 S ⟨hv15, H⟩
  refine w v15 rfl rfl <| A_ <| V_ <| C_ <| S_ <| us 2 rfl <| A_ <| C_ ?_
  exact ih h v15 (hv15) kn (hs H)
  refine G_ rfl hc10 <| Y_ <| K_ <| K_ ?_
  cases oi h
  exact hbrk v9 (hv9) kn (hs H)
theorem s80 : ∀ k : Nat, ∀ {a0 : Str} {a1 : Sl Str} {r : Xab}, F80 k a0 a1 = some r → Q 80 [(.str a0), (Xar eS a1)] (.agg (Xaa r)) := by
 intro k a0 a1 r h vs ha S
 unfold F80 at h
 refine e_ (pf := Xt5) rfl rfl ha (D_ rfl) cq cq ?_
 refine o_ (pf := Xt5) rfl ?_
 have H := g_ []
 refine B_ <| Wa (ti := XbA) H rfl ?_
 intro i1 S hi1 H
 refine A_ <| B_ <| us 1 rfl <| A_ <| I_ <| B_ <| us 1 rfl <| Wl rfl <| us 1 rfl <| A_ ?_
 obtain ⟨y2, hy2, hOy2⟩ := Xaf h
 refine R_ ?_
 have H := H.addNil 3
 refine Xs9 hi1 ?_ hy2 .nils ((Xam _)) kn (hs H)
 intro σ S v3 hv3 hk H; replace h := hOy2
 refine J_ hk <| U_ <| C_ <| B_ <| us 1 rfl ?_
 obtain ⟨y4, hy4, h⟩ := Xaf h
 refine Cl (.agg (Xaa y4)) [(.int .u8 4), (.str a0)] rfl rfl (s20 _ hy4 rfl) <| w v3 rfl rfl ?_
 obtain ⟨y5, hy5, h⟩ := Xaf h
 refine Cl (.agg (Xaa y5)) [(.int .u8 49), v3] rfl (fo rfl (Xaw hv3.frz rfl)) (s19 _ hy5 (by simp only [XaI, hv3.strip, List.map_cons, List.map_nil, Xal] <;> rfl)) <| WS rfl (nz rfl (Xaj (ys := [y4, y5]) (f := Xac) (parts := [(0, (.agg (Xaa y4))), (1, (.agg (Xaa y5)))]) rfl rfl rfl rfl rfl (by simp only [Xax, List.map_cons, List.map_nil, Xap, Xaq, Xai, Xad, Xal]) (fc ⟨rfl, rfl⟩ (fc ⟨rfl, rfl⟩ (fun p hp => nomatch hp))) rfl)) ?_
 have hv6 : Xa8 Xac (some [y4, y5]) _ := ⟨.full, rfl⟩
 obtain ⟨y7, hy7, h⟩ := Xaf h
 refine Cl (.agg (Xaa y7)) [(.int .u8 48), (.lst (List.map Xac [y4, y5]) .full)] rfl (fo rfl (Xaw hv6.frz rfl)) (s19 _ hy7 (by simp only [XaI, hv6.strip, XaX, Xa3, eI, eB, eS, List.map_cons, List.map_nil, Xal] <;> rfl)) <| Ws 0 H hi1 rfl ?_
 intro S H
 refine A_ <| Q_ ?_
 have h := oi h; subst h
 refine Z_ (vs := [(.agg (Xaa y7))]) (Xa0 rfl (H.get 0 rfl) rfl Xas) (L_ rfl rfl) ?_
 exact (by simp only [Xa7, List.map_cons, List.map_nil, Xal, Xax, Xap, Xaq, Xai, Xad, Xaa])
def Xgn (k : Nat) (a0 : Bool) (a1 : Sl Xat) (a2 : Int) (a3 : Xab) : Nat → (Sl Xab) → Int → Option ((Sl Xab) × Int)
 | 0, _, _ => none
 | n + 1, x4, x5 =>
  if decide (x5 < a2) then
  (Sl.at? a1 x5).bind fun y6 =>
  (F80 k y6.Attr y6.Values).bind fun y7 =>
  (if a0 then
  (F22 k 10 (sb .i64 y6.Kind 1)).bind fun y8 =>
  (F19 k 48 (some [y8, y7])).bind fun y9 =>
  some y9
  else
  some y7).bind fun y10 =>
  (Sl.app? 48 x4 (Sl.l (some [y10]))).bind fun z11 =>
  Xgn k a0 a1 a2 a3 n z11 (ad .i64 x5 1)
  else
  some (x4, x5)
def F50 (k : Nat) (a0 : Sl Xat) (a1 : Bool) : Option Xab :=
 (Xgn k a1 a0 (Sl.len a0) (Xab.mk 0 [] none) k none 0).bind fun y2 =>
 (F19 k 48 y2.1).bind fun y3 =>
 some y3
theorem XsA {k : Nat} {a2 : Bool} {a3 : Sl Xat} {a4 : Int} {a5 : Xab} {S0 : List SObj} {R : List Nat} {K : KX} {i1 : Nat} (hi1 : S0.length ≤ i1)  {o : ((Sl Xab) × Int)}
  (hbrk : ∀ {σ' : Nat → PV} {S' : List SObj}, ∀ (v6 : PV) (_ : Xa8 Xac o.1 v6), Xa2 [(4, (.ptr i1 0)), (5, v6)] σ' → Hp S0 R S' [(i1, .cells (Xau a5 .nils))] [(v6, 3)] [] → K (.exit 0) σ' S' false) :
  ∀ {n : Nat} {x7 : Sl Xab} {x8 : Int}, Xgn k a2 a3 a4 a5 n x7 x8 = some o → ∀ {σ : Nat → PV} {S : List SObj}, ∀ (v9 : PV) (_ : Xa8 Xac x7 v9), Xa2 [(1, (.bool a2)), (4, (.ptr i1 0)), (5, v9), (9, (Xar Xao a3)), (10, (.int .i64 a4)), (11, (.int .i64 x8))] σ → Hp S0 R S [(i1, .cells (Xau a5 .nils))] [(v9, 3)] [] → WC env ⟨35, S0.length⟩ (.loop Xqp) σ S false K := by
 intro n
 induction n with
 | zero => intro _ _ h; cases h
 | succ n ih =>
  intro x7 x8 h σ S v9 hv9 hk H
  rw [Xgn] at h
  refine b_ <| X_ hk <| B_ <| us 1 rfl <| A_ <| I_ ?_
  rcases Xa1 h with ⟨hc10, h⟩ | ⟨hc10, h⟩
  refine F_ rfl hc10 <| M_ <| C_ <| I_ <| R_ <| B_ ?_
  obtain ⟨y11, hy11, h⟩ := Xaf h
  refine Wx hy11 (Xaz _) rfl <| us 1 rfl <| Wa (ti := XlD) H rfl ?_
  intro i12 S hi12 H
  refine Ws 0 H hi12 rfl ?_
  intro S H
  refine A_ <| B_ <| us 1 rfl <| Wg H 0 rfl <| us 1 rfl <| Wg H 0 rfl ?_
  obtain ⟨y13, hy13, h⟩ := Xaf h
  refine Cl (.agg (Xaa y13)) [(.str y11.Attr), (Xar eS y11.Values)] rfl (Xaw rfl (fe rfl rfl)) (sv (s80 _ hy13)) <| Wa (ti := XbA) H rfl ?_
  intro i14 S hi14 H
  refine Ws 0 H hi14 rfl ?_
  intro S H
  refine A_ <| I_ <| B_ <| us 1 rfl <| A_ ?_
  obtain ⟨y15, hy15, hOy15⟩ := Xaf h
  refine a_ (SJ [(1, (.bool a2)), (4, (.ptr i1 0)), (5, v9), (8, (.ptr i14 0)), (9, (Xar Xao a3)), (10, (.int .i64 a4)), (11, (.int .i64 x8))] S0 R [(i14, .cells (Xaa y15)), (i12, .cells (XbG y11)), (i1, .cells (Xau a5 .nils))] [(v9, 3)] [] false) ?_ ?_
  replace h := hy15
  rcases Xa1 h with ⟨hc16, h⟩ | ⟨hc16, h⟩
  refine F_ rfl hc16 <| h_ <| wh _ rfl rfl <| Wgh H 1 rfl <| wh _ rfl rfl ?_
  obtain ⟨y17, hy17, h⟩ := Xaf h
  refine Clh (.agg (Xaa y17)) [(.int .u8 10), (.int .i64 (sb .i64 y11.Kind 1))] rfl rfl (s22 _ hy17 rfl) <| Wgh H 0 rfl <| f_ <| WS rfl (nz rfl (Xaj (ys := [y17, y13]) (f := Xac) (parts := [(0, (.agg (Xaa y17))), (1, (.agg (Xaa y13)))]) rfl rfl rfl rfl rfl (by simp only [Xax, List.map_cons, List.map_nil, Xap, Xaq, Xai, Xad, Xal]) (fc ⟨rfl, rfl⟩ (fc ⟨rfl, rfl⟩ (fun p hp => nomatch hp))) rfl)) ?_
  have hv18 : Xa8 Xac (some [y17, y13]) _ := ⟨.full, rfl⟩
  obtain ⟨y19, hy19, h⟩ := Xaf h
  refine Cl (.agg (Xaa y19)) [(.int .u8 48), (.lst (List.map Xac [y17, y13]) .full)] rfl (fo rfl (Xaw hv18.frz rfl)) (s19 _ hy19 (by simp only [XaI, hv18.strip, XaX, Xa3, eI, eB, eS, List.map_cons, List.map_nil, Xal] <;> rfl)) <| Ws 0 H hi14 rfl ?_
  intro S H
  refine A_ <| C_ ?_
  cases oi h
  exact kh H
  refine G_ rfl hc16 <| M_ <| C_ ?_
  cases oi h
  exact kh H
  rintro σ S e ⟨hk, H, rfl⟩
  replace h := hOy15
  refine J_ hk <| C_ <| S_ <| w v9 rfl rfl <| Wg H 0 rfl <| WS rfl (nz rfl (Xaj (ys := [y15]) (f := Xac) (parts := [(0, (.agg (Xaa y15)))]) rfl rfl rfl rfl rfl (by simp only [Xax, List.map_cons, List.map_nil, Xap, Xaq, Xai, Xad, Xal]) (fc ⟨rfl, rfl⟩ (fun p hp => nomatch hp)) rfl)) ?_
  have hv20 : Xa8 Xac (some [y15]) _ := ⟨.full, rfl⟩
  obtain ⟨z21, hz21, h⟩ := Xaf h
  refine WO.ex rfl (nzx (Xaw hv20.frz rfl) (Xb0 (f := Xac) (ei := XbA) H 0 rfl rfl hv9 rfl hv20 rfl rfl rfl rfl (fun a => (Xa4 a).2.1) hz21)) ?_
  rintro v22 S ⟨hv22, H⟩
  refine w v22 rfl rfl <| A_ <| V_ <| C_ <| S_ <| us 2 rfl <| A_ <| C_ ?_
  exact ih h v22 (hv22) kn (H.sub (.cons _ (.cons _ (.cons_cons _ .slnil))) (.cons_cons _ .slnil) .slnil)
  refine G_ rfl hc10 <| Y_ <| K_ <| K_ ?_
  cases oi h
  exact hbrk v9 (hv9) kn (hs H)
theorem s50 : ∀ k : Nat, ∀ {a0 : Sl Xat} {a1 : Bool} {r : Xab}, F50 k a0 a1 = some r → Q 50 [(Xar Xao a0), (.bool a1)] (.agg (Xaa r)) := by
 intro k a0 a1 r h vs ha S
 unfold F50 at h
 refine e_ (pf := Xt6) rfl rfl ha (D_ rfl) cq cq ?_
 refine o_ (pf := Xt6) rfl ?_
 have H := g_ []
 refine B_ <| Wa (ti := XbA) H rfl ?_
 intro i1 S hi1 H
 refine A_ <| B_ <| us 1 rfl <| A_ <| I_ <| B_ <| us 1 rfl <| Wl rfl <| us 1 rfl <| A_ ?_
 obtain ⟨y2, hy2, hOy2⟩ := Xaf h
 refine R_ ?_
 have H := H.addNil 3
 refine XsA hi1 ?_ hy2 .nils ((Xam _)) kn (hs H)
 intro σ S v3 hv3 hk H; replace h := hOy2
 refine J_ hk <| U_ <| C_ <| B_ <| w v3 rfl rfl ?_
 obtain ⟨y4, hy4, h⟩ := Xaf h
 refine Cl (.agg (Xaa y4)) [(.int .u8 48), v3] rfl (fo rfl (Xaw hv3.frz rfl)) (s19 _ hy4 (by simp only [XaI, hv3.strip, List.map_cons, List.map_nil, Xal] <;> rfl)) <| Ws 0 H hi1 rfl ?_
 intro S H
 refine A_ <| Q_ ?_
 have h := oi h; subst h
 refine Z_ (vs := [(.agg (Xaa y4))]) (Xa0 rfl (H.get 0 rfl) rfl Xas) (L_ rfl rfl) ?_
 exact (by simp only [Xa7, List.map_cons, List.map_nil, Xal, Xax, Xap, Xaq, Xai, Xad, Xaa])
def Xfj (k : Nat) (a0 : Sl Str) (a1 : Int) (a2 : Xay) : Nat → (Sl Xab) → Int → Option ((Sl Xab) × Int)
 | 0, _, _ => none
 | n + 1, x3, x4 =>
  if decide (x4 < a1) then
  (Sl.at? a0 x4).bind fun y5 =>
  (F20 k 4 y5).bind fun y6 =>
  (Sl.app? 48 x3 (Sl.l (some [y6]))).bind fun z7 =>
  Xfj k a0 a1 a2 n z7 (ad .i64 x4 1)
  else
  some (x3, x4)
def F21 (k : Nat) (a0 : Xay) : Option (Sl Xab) :=
 if a0.Op == 1 then
 (F22 k 2 a0.Version).bind fun y1 =>
 (F20 k 4 a0.DN).bind fun y2 =>
 (F20 k 128 a0.Pass).bind fun y3 =>
 some (some [y1, y2, y3])
 else
 if a0.Op == 3 then
 (Xfj k a0.Wants (Sl.len a0.Wants) a0 k none 0).bind fun y4 =>
 (F20 k 4 a0.DN).bind fun y5 =>
 (F22 k 10 a0.Scope).bind fun y6 =>
 (F22 k 10 0).bind fun y7 =>
 (F22 k 2 a0.Size).bind fun y8 =>
 (F22 k 2 0).bind fun y9 =>
 (F48 k false).bind fun y10 =>
 (F49 k a0.Filter).bind fun y11 =>
 (F19 k 48 y4.1).bind fun y12 =>
 some (some [y5, y6, y7, y8, y9, y10, y11, y12])
 else
 (if a0.Op == 4 then
 some (a0.Op == 4)
 else
 (if a0.Op == 5 then
 some (a0.Op == 5)
 else
 some (a0.Op == 10)).bind fun y13 =>
 some y13).bind fun y14 =>
 if y14 then
 (F20 k 4 a0.DN).bind fun y15 =>
 (F50 k a0.Mods (a0.Op == 4)).bind fun y16 =>
 some (some [y15, y16])
 else
 if a0.Op == 7 then
 (F20 k 4 a0.DN).bind fun y17 =>
 (F20 k 4 a0.RDN).bind fun y18 =>
 (F48 k a0.DelOld).bind fun y19 =>
 (if a0.HasSup then
 (F20 k 128 a0.Sup).bind fun y20 =>
 (Sl.app? 48 (some [y17, y18, y19]) (Sl.l (some [y20]))).bind fun z21 =>
 some z21
 else
 some (some [y17, y18, y19])).bind fun y22 =>
 some y22
 else
 if a0.Op == 8 then
 (F20 k 4 a0.DN).bind fun y23 =>
 (F20 k 4 a0.Attr).bind fun y24 =>
 (F20 k 4 a0.Value).bind fun y25 =>
 (F19 k 48 (some [y24, y25])).bind fun y26 =>
 some (some [y23, y26])
 else
 (F22 k 10 a0.Code).bind fun y27 =>
 (F20 k 4 a0.Matched).bind fun y28 =>
 (F20 k 4 []).bind fun y29 =>
 some (some [y27, y28, y29])
theorem XsB {k : Nat} {a2 : Sl Str} {a3 : Int} {a4 : Xay} {S0 : List SObj} {R : List Nat} {K : KX} {i1 : Nat} (hi1 : S0.length ≤ i1)  {o : ((Sl Xab) × Int)}
  (hbrk : ∀ {σ' : Nat → PV} {S' : List SObj}, ∀ (v5 : PV) (_ : Xa8 Xac o.1 v5), Xa2 [(1, (.ptr i1 0)), (3, v5)] σ' → Hp S0 R S' [(i1, .cells (Xak a4))] [(v5, 3)] [] → K (.exit 1) σ' S' false) :
  ∀ {n : Nat} {x6 : Sl Xab} {x7 : Int}, Xfj k a2 a3 a4 n x6 x7 = some o → ∀ {σ : Nat → PV} {S : List SObj}, ∀ (v8 : PV) (_ : Xa8 Xac x6 v8), Xa2 [(1, (.ptr i1 0)), (3, v8), (24, (Xar eS a2)), (25, (.int .i64 a3)), (26, (.int .i64 x7))] σ → Hp S0 R S [(i1, .cells (Xak a4))] [(v8, 3)] [] → WC env ⟨111, S0.length⟩ (.loop Xqs) σ S false K := by
 intro n
 induction n with
 | zero => intro _ _ h; cases h
 | succ n ih =>
  intro x6 x7 h σ S v8 hv8 hk H
  rw [Xfj] at h
  refine b_ <| X_ hk <| B_ <| us 1 rfl <| A_ <| I_ ?_
  rcases Xa1 h with ⟨hc9, h⟩ | ⟨hc9, h⟩
  refine F_ rfl hc9 <| M_ <| C_ <| I_ <| R_ <| B_ ?_
  obtain ⟨y10, hy10, h⟩ := Xaf h
  refine Wx hy10 rfl rfl <| us 2 rfl <| A_ <| S_ <| w v8 rfl rfl <| us 1 rfl ?_
  obtain ⟨y11, hy11, h⟩ := Xaf h
  refine Cl (.agg (Xaa y11)) [(.int .u8 4), (.str y10)] rfl rfl (s20 _ hy11 rfl) <| WS rfl (nz rfl (Xaj (ys := [y11]) (f := Xac) (parts := [(0, (.agg (Xaa y11)))]) rfl rfl rfl rfl rfl (by simp only [Xax, List.map_cons, List.map_nil, Xap, Xaq, Xai, Xad, Xal]) (fc ⟨rfl, rfl⟩ (fun p hp => nomatch hp)) rfl)) ?_
  have hv12 : Xa8 Xac (some [y11]) _ := ⟨.full, rfl⟩
  obtain ⟨z13, hz13, h⟩ := Xaf h
  refine WO.ex rfl (nzx (Xaw hv12.frz rfl) (Xb0 (f := Xac) (ei := XbA) H 0 rfl rfl hv8 rfl hv12 rfl rfl rfl rfl (fun a => (Xa4 a).2.1) hz13)) ?_
  rintro v14 S ⟨hv14, H⟩
  refine w v14 rfl rfl <| A_ <| V_ <| C_ <| S_ <| us 2 rfl <| A_ <| C_ ?_
  exact ih h v14 (hv14) kn (hs H)
  refine G_ rfl hc9 <| Y_ <| K_ <| K_ ?_
  cases oi h
  exact hbrk v8 (hv8) kn (hs H)
theorem s21 : ∀ k : Nat, ∀ {a0 : Xay} {r : (Sl Xab)}, F21 k a0 = some r → Q 21 [(.agg (Xak a0))] (Xar Xac r) := by
 intro k a0 r h vs ha S
 unfold F21 at h
 refine e_ (pf := Xt7) rfl rfl ha (D_ rfl) cq cq ?_
 refine o_ (pf := Xt7) rfl ?_
 have H := g_ []
 refine B_ <| Wb H rfl ?_
 intro i1 S hi1 H
 refine us 1 rfl <| A_ <| I_ <| B_ <| us 1 rfl <| Wg H 0 rfl <| A_ <| R_ <| B_ <| us 2 rfl <| A_ ?_
 rcases Xa1 h with ⟨hc2, h⟩ | ⟨hc2, h⟩
 refine F_ rfl hc2 <| I_ <| h_ <| wh _ rfl rfl <| Wgh H 0 rfl ?_
 obtain ⟨y3, hy3, h⟩ := Xaf h
 refine Clh (.agg (Xaa y3)) [(.int .u8 2), (.int .i64 a0.Version)] rfl rfl (s22 _ hy3 rfl) <| wh _ rfl rfl <| Wgh H 0 rfl ?_
 obtain ⟨y4, hy4, h⟩ := Xaf h
 refine Clh (.agg (Xaa y4)) [(.int .u8 4), (.str a0.DN)] rfl rfl (s20 _ hy4 rfl) <| wh _ rfl rfl <| Wgh H 0 rfl <| f_ ?_
 obtain ⟨y5, hy5, h⟩ := Xaf h
 refine Cl (.agg (Xaa y5)) [(.int .u8 128), (.str a0.Pass)] rfl rfl (s20 _ hy5 rfl) <| WS rfl (nz rfl (Xaj (ys := [y3, y4, y5]) (f := Xac) (parts := [(0, (.agg (Xaa y3))), (1, (.agg (Xaa y4))), (2, (.agg (Xaa y5)))]) rfl rfl rfl rfl rfl (by simp only [Xax, List.map_cons, List.map_nil, Xap, Xaq, Xai, Xad, Xal]) (fc ⟨rfl, rfl⟩ (fc ⟨rfl, rfl⟩ (fc ⟨rfl, rfl⟩ (fun p hp => nomatch hp)))) rfl)) ?_
 have hv6 : Xa8 Xac (some [y3, y4, y5]) _ := ⟨.full, rfl⟩
 refine us 1 rfl <| A_ <| C_ <| Q_ <| P_ <| H_ ?_
 cases oi h
 refine Z_ (vs := [(.lst (List.map Xac [y3, y4, y5]) .full)]) (T_ rfl Xas) (L_ hv6.frz rfl) ?_
 exact (by simp only [Xa7, List.map_cons, List.map_nil, Xal, hv6.strip, XaX, Xa3, eI, eB, eS])
 refine G_ rfl hc2 <| B_ <| us 2 rfl <| A_ ?_
 rcases Xa1 h with ⟨hc7, h⟩ | ⟨hc7, h⟩
 refine F_ rfl hc7 <| B_ <| us 1 rfl <| A_ <| I_ <| B_ <| us 1 rfl <| Wg H 0 rfl <| Wl rfl <| us 1 rfl <| A_ ?_
 obtain ⟨y8, hy8, hOy8⟩ := Xaf h
 refine R_ ?_
 have H := H.addNil 3
 refine XsB hi1 ?_ hy8 .nils ((Xam _)) kn (hs H)
 intro σ S v9 hv9 hk H; replace h := hOy8
 refine J_ hk <| U_ <| C_ <| I_ <| h_ <| wh _ rfl rfl <| Wgh H 0 rfl ?_
 obtain ⟨y10, hy10, h⟩ := Xaf h
 refine Clh (.agg (Xaa y10)) [(.int .u8 4), (.str a0.DN)] rfl rfl (s20 _ hy10 rfl) <| wh _ rfl rfl <| Wgh H 0 rfl ?_
 obtain ⟨y11, hy11, h⟩ := Xaf h
 refine Clh (.agg (Xaa y11)) [(.int .u8 10), (.int .i64 a0.Scope)] rfl rfl (s22 _ hy11 rfl) ?_
 obtain ⟨y12, hy12, h⟩ := Xaf h
 refine Clh (.agg (Xaa y12)) [(.int .u8 10), (.int .i64 0)] rfl rfl (s22 _ hy12 rfl) <| wh _ rfl rfl <| Wgh H 0 rfl ?_
 obtain ⟨y13, hy13, h⟩ := Xaf h
 refine Clh (.agg (Xaa y13)) [(.int .u8 2), (.int .i64 a0.Size)] rfl rfl (s22 _ hy13 rfl) ?_
 obtain ⟨y14, hy14, h⟩ := Xaf h
 refine Clh (.agg (Xaa y14)) [(.int .u8 2), (.int .i64 0)] rfl rfl (s22 _ hy14 rfl) ?_
 obtain ⟨y15, hy15, h⟩ := Xaf h
 refine Clh (.agg (Xaa y15)) [(.bool false)] rfl rfl (s48 _ hy15 rfl) <| wh _ rfl rfl <| Wgh H 0 rfl ?_
 obtain ⟨y16, hy16, h⟩ := Xaf h
 refine Clh (.agg (Xaa y16)) [(.agg (Xag a0.Filter))] rfl rfl (sv (s49 _ hy16)) <| wh _ rfl rfl <| f_ ?_
 obtain ⟨y17, hy17, h⟩ := Xaf h
 refine Cl (.agg (Xaa y17)) [(.int .u8 48), v9] rfl (fo rfl (Xaw hv9.frz rfl)) (s19 _ hy17 (by simp only [XaI, hv9.strip, List.map_cons, List.map_nil, Xal] <;> rfl)) <| WS rfl (nz rfl (Xaj (ys := [y10, y11, y12, y13, y14, y15, y16, y17]) (f := Xac) (parts := [(0, (.agg (Xaa y10))), (1, (.agg (Xaa y11))), (2, (.agg (Xaa y12))), (3, (.agg (Xaa y13))), (4, (.agg (Xaa y14))), (5, (.agg (Xaa y15))), (6, (.agg (Xaa y16))), (7, (.agg (Xaa y17)))]) rfl rfl rfl rfl rfl (by simp only [Xax, List.map_cons, List.map_nil, Xap, Xaq, Xai, Xad, Xal]) (fc ⟨rfl, rfl⟩ (fc ⟨rfl, rfl⟩ (fc ⟨rfl, rfl⟩ (fc ⟨rfl, rfl⟩ (fc ⟨rfl, rfl⟩ (fc ⟨rfl, rfl⟩ (fc ⟨rfl, rfl⟩ (fc ⟨rfl, rfl⟩ (fun p hp => nomatch hp))))))))) rfl)) ?_
 have hv18 : Xa8 Xac (some [y10, y11, y12, y13, y14, y15, y16, y17]) _ := ⟨.full, rfl⟩
 refine us 1 rfl <| A_ <| C_ <| Q_ <| P_ <| H_ ?_
 cases oi h
 refine Z_ (vs := [(.lst (List.map Xac [y10, y11, y12, y13, y14, y15, y16, y17]) .full)]) (T_ rfl Xas) (L_ hv18.frz rfl) ?_
 exact (by simp only [Xa7, List.map_cons, List.map_nil, Xal, hv18.strip, XaX, Xa3, eI, eB, eS])
 refine G_ rfl hc7 <| I_ <| B_ <| us 2 rfl <| A_ ?_
 obtain ⟨y19, hy19, hOy19⟩ := Xaf h
 refine a_ (SJ [(1, (.ptr i1 0)), (8, (.int .i64 a0.Op)), (54, (.bool y19))] [] [] [(i1, .cells (Xak a0))] [] [] false) ?_ ?_
 replace h := hy19
 rcases Xa1 h with ⟨hc20, h⟩ | ⟨hc20, h⟩
 refine F_ rfl hc20 <| M_ <| C_ ?_
 cases oi h
 exact kh H
 refine G_ rfl hc20 <| B_ <| us 2 rfl <| A_ ?_
 obtain ⟨y21, hy21, hOy21⟩ := Xaf h
 refine a_ (SJ [(1, (.ptr i1 0)), (8, (.int .i64 a0.Op)), (54, (.bool y21))] [] [] [(i1, .cells (Xak a0))] [] [] false) ?_ ?_
 replace h := hy21
 rcases Xa1 h with ⟨hc22, h⟩ | ⟨hc22, h⟩
 refine F_ rfl hc22 <| M_ <| C_ ?_
 cases oi h
 exact kh H
 refine G_ rfl hc22 <| S_ <| us 2 rfl <| A_ <| C_ ?_
 cases oi h
 exact kh H
 rintro σ S e ⟨hk, H, rfl⟩
 replace h := hOy21
 refine J_ hk <| C_ ?_
 cases oi h
 exact kh H
 rintro σ S e ⟨hk, H, rfl⟩
 replace h := hOy19
 refine J_ hk <| C_ ?_
 rcases Xa1 h with ⟨hc23, h⟩ | ⟨hc23, h⟩
 refine F_ rfl hc23 <| I_ <| h_ <| wh _ rfl rfl <| Wgh H 0 rfl ?_
 obtain ⟨y24, hy24, h⟩ := Xaf h
 refine Clh (.agg (Xaa y24)) [(.int .u8 4), (.str a0.DN)] rfl rfl (s20 _ hy24 rfl) <| wh _ rfl rfl <| Wgh H 0 rfl <| wh _ rfl rfl <| Wgh H 0 rfl <| wh _ rfl rfl <| f_ ?_
 obtain ⟨y25, hy25, h⟩ := Xaf h
 refine Cl (.agg (Xaa y25)) [(Xar Xao a0.Mods), (.bool (a0.Op == 4))] rfl (fe rfl (Xaw rfl rfl)) (sv (s50 _ hy25)) <| WS rfl (nz rfl (Xaj (ys := [y24, y25]) (f := Xac) (parts := [(0, (.agg (Xaa y24))), (1, (.agg (Xaa y25)))]) rfl rfl rfl rfl rfl (by simp only [Xax, List.map_cons, List.map_nil, Xap, Xaq, Xai, Xad, Xal]) (fc ⟨rfl, rfl⟩ (fc ⟨rfl, rfl⟩ (fun p hp => nomatch hp))) rfl)) ?_
 have hv26 : Xa8 Xac (some [y24, y25]) _ := ⟨.full, rfl⟩
 refine us 1 rfl <| A_ <| C_ <| Q_ <| P_ <| H_ ?_
 cases oi h
 refine Z_ (vs := [(.lst (List.map Xac [y24, y25]) .full)]) (T_ rfl Xas) (L_ hv26.frz rfl) ?_
 exact (by simp only [Xa7, List.map_cons, List.map_nil, Xal, hv26.strip, XaX, Xa3, eI, eB, eS])
 refine G_ rfl hc23 <| B_ <| us 2 rfl <| A_ ?_
 rcases Xa1 h with ⟨hc27, h⟩ | ⟨hc27, h⟩
 refine F_ rfl hc27 <| I_ <| h_ <| wh _ rfl rfl <| Wgh H 0 rfl ?_
 obtain ⟨y28, hy28, h⟩ := Xaf h
 refine Clh (.agg (Xaa y28)) [(.int .u8 4), (.str a0.DN)] rfl rfl (s20 _ hy28 rfl) <| wh _ rfl rfl <| Wgh H 0 rfl ?_
 obtain ⟨y29, hy29, h⟩ := Xaf h
 refine Clh (.agg (Xaa y29)) [(.int .u8 4), (.str a0.RDN)] rfl rfl (s20 _ hy29 rfl) <| wh _ rfl rfl <| Wgh H 0 rfl <| f_ ?_
 obtain ⟨y30, hy30, h⟩ := Xaf h
 refine Cl (.agg (Xaa y30)) [(.bool a0.DelOld)] rfl rfl (s48 _ hy30 rfl) <| WS rfl (nz rfl (Xaj (ys := [y28, y29, y30]) (f := Xac) (parts := [(0, (.agg (Xaa y28))), (1, (.agg (Xaa y29))), (2, (.agg (Xaa y30)))]) rfl rfl rfl rfl rfl (by simp only [Xax, List.map_cons, List.map_nil, Xap, Xaq, Xai, Xad, Xal]) (fc ⟨rfl, rfl⟩ (fc ⟨rfl, rfl⟩ (fc ⟨rfl, rfl⟩ (fun p hp => nomatch hp)))) rfl)) ?_
 have hv31 : Xa8 Xac (some [y28, y29, y30]) _ := ⟨.full, rfl⟩
 refine us 1 rfl <| A_ <| C_ <| I_ <| B_ <| us 1 rfl <| Wg H 0 rfl <| A_ ?_
 obtain ⟨y32, hy32, hOy32⟩ := Xaf h
 refine a_ (fun σ' S' e' => ∃ v33, Xa8 Xac y32 v33 ∧ Xa2 ([(6, v33)]) σ' ∧ Hp [] [] S' [(i1, .cells (Xak a0))] [] [] ∧ e' = false) ?_ ?_
 replace h := hy32
 rcases Xa1 h with ⟨hc34, h⟩ | ⟨hc34, h⟩
 refine F_ rfl hc34 <| S_ <| us 2 rfl <| Wg H 0 rfl ?_
 obtain ⟨y35, hy35, h⟩ := Xaf h
 refine Cl (.agg (Xaa y35)) [(.int .u8 128), (.str a0.Sup)] rfl rfl (s20 _ hy35 rfl) <| WS rfl (nz rfl (Xaj (ys := [y35]) (f := Xac) (parts := [(0, (.agg (Xaa y35)))]) rfl rfl rfl rfl rfl (by simp only [Xax, List.map_cons, List.map_nil, Xap, Xaq, Xai, Xad, Xal]) (fc ⟨rfl, rfl⟩ (fun p hp => nomatch hp)) rfl)) ?_
 have hv36 : Xa8 Xac (some [y35]) _ := ⟨.full, rfl⟩
 obtain ⟨z37, hz37, h⟩ := Xaf h
 have H := H.addFull (List.map Xac [y28, y29, y30]) 3 (Xcv (f := Xac) (fun a => (Xa4 a).2.1) _)
 refine WO.ex rfl (nzx (Xaw hv36.frz rfl) (Xb0 (f := Xac) (ei := XbA) H 0 rfl rfl hv31 rfl hv36 rfl rfl rfl rfl (fun a => (Xa4 a).2.1) hz37)) ?_
 rintro v38 S ⟨hv38, H⟩
 refine w v38 rfl rfl <| A_ <| C_ ?_
 cases oi h
 exact ⟨v38, hv38, kn, (H.sub (.cons_cons _ .slnil) (.cons _ .slnil) .slnil), rfl⟩
 refine G_ rfl hc34 <| M_ <| C_ ?_
 cases oi h
 exact ⟨(.lst (List.map Xac [y28, y29, y30]) .full), hv31, kn, (hs H), rfl⟩
 rintro σ S e ⟨v33, hv33, hk, H, rfl⟩
 replace h := hOy32
 refine J_ hk <| C_ <| B_ <| w v33 rfl rfl <| w v33 rfl rfl <| A_ <| Q_ <| P_ <| H_ ?_
 cases oi h
 refine Z_ (vs := [v33]) (T_ rfl Xas) (L_ hv33.frz rfl) ?_
 exact (by simp only [Xa7, List.map_cons, List.map_nil, Xal, hv33.strip])
 refine G_ rfl hc27 <| B_ <| us 2 rfl <| A_ ?_
 rcases Xa1 h with ⟨hc39, h⟩ | ⟨hc39, h⟩
 refine F_ rfl hc39 <| I_ <| h_ <| wh _ rfl rfl <| Wgh H 0 rfl ?_
 obtain ⟨y40, hy40, h⟩ := Xaf h
 refine Clh (.agg (Xaa y40)) [(.int .u8 4), (.str a0.DN)] rfl rfl (s20 _ hy40 rfl) <| wh _ rfl rfl <| Wgh H 0 rfl ?_
 obtain ⟨y41, hy41, h⟩ := Xaf h
 refine Clh (.agg (Xaa y41)) [(.int .u8 4), (.str a0.Attr)] rfl rfl (s20 _ hy41 rfl) <| wh _ rfl rfl <| Wgh H 0 rfl <| f_ ?_
 obtain ⟨y42, hy42, h⟩ := Xaf h
 refine Cl (.agg (Xaa y42)) [(.int .u8 4), (.str a0.Value)] rfl rfl (s20 _ hy42 rfl) <| WS rfl (nz rfl (Xaj (ys := [y41, y42]) (f := Xac) (parts := [(0, (.agg (Xaa y41))), (1, (.agg (Xaa y42)))]) rfl rfl rfl rfl rfl (by simp only [Xax, List.map_cons, List.map_nil, Xap, Xaq, Xai, Xad, Xal]) (fc ⟨rfl, rfl⟩ (fc ⟨rfl, rfl⟩ (fun p hp => nomatch hp))) rfl)) ?_
 have hv43 : Xa8 Xac (some [y41, y42]) _ := ⟨.full, rfl⟩
 obtain ⟨y44, hy44, h⟩ := Xaf h
 refine Cl (.agg (Xaa y44)) [(.int .u8 48), (.lst (List.map Xac [y41, y42]) .full)] rfl (fo rfl (Xaw hv43.frz rfl)) (s19 _ hy44 (by simp only [XaI, hv43.strip, XaX, Xa3, eI, eB, eS, List.map_cons, List.map_nil, Xal] <;> rfl)) <| WS rfl (nz rfl (Xaj (ys := [y40, y44]) (f := Xac) (parts := [(0, (.agg (Xaa y40))), (1, (.agg (Xaa y44)))]) rfl rfl rfl rfl rfl (by simp only [Xax, List.map_cons, List.map_nil, Xap, Xaq, Xai, Xad, Xal]) (fc ⟨rfl, rfl⟩ (fc ⟨rfl, rfl⟩ (fun p hp => nomatch hp))) rfl)) ?_
 have hv45 : Xa8 Xac (some [y40, y44]) _ := ⟨.full, rfl⟩
 refine us 1 rfl <| A_ <| C_ <| Q_ <| P_ <| H_ ?_
 cases oi h
 refine Z_ (vs := [(.lst (List.map Xac [y40, y44]) .full)]) (T_ rfl Xas) (L_ hv45.frz rfl) ?_
 exact (by simp only [Xa7, List.map_cons, List.map_nil, Xal, hv45.strip, XaX, Xa3, eI, eB, eS])
 refine G_ rfl hc39 <| M_ <| V_ <| C_ <| I_ <| h_ <| wh _ rfl rfl <| Wgh H 0 rfl ?_
 obtain ⟨y46, hy46, h⟩ := Xaf h
 refine Clh (.agg (Xaa y46)) [(.int .u8 10), (.int .i64 a0.Code)] rfl rfl (s22 _ hy46 rfl) <| wh _ rfl rfl <| Wgh H 0 rfl <| f_ ?_
 obtain ⟨y47, hy47, h⟩ := Xaf h
 refine Cl (.agg (Xaa y47)) [(.int .u8 4), (.str a0.Matched)] rfl rfl (s20 _ hy47 rfl) ?_
 obtain ⟨y48, hy48, h⟩ := Xaf h
 refine Cl (.agg (Xaa y48)) [(.int .u8 4), (.str [])] rfl rfl (s20 _ hy48 rfl) <| WS rfl (nz rfl (Xaj (ys := [y46, y47, y48]) (f := Xac) (parts := [(0, (.agg (Xaa y46))), (1, (.agg (Xaa y47))), (2, (.agg (Xaa y48)))]) rfl rfl rfl rfl rfl (by simp only [Xax, List.map_cons, List.map_nil, Xap, Xaq, Xai, Xad, Xal]) (fc ⟨rfl, rfl⟩ (fc ⟨rfl, rfl⟩ (fc ⟨rfl, rfl⟩ (fun p hp => nomatch hp)))) rfl)) ?_
 have hv49 : Xa8 Xac (some [y46, y47, y48]) _ := ⟨.full, rfl⟩
 refine us 1 rfl <| A_ <| C_ <| Q_ ?_
 cases oi h
 refine Z_ (vs := [(.lst (List.map Xac [y46, y47, y48]) .full)]) (T_ rfl Xas) (L_ hv49.frz rfl) ?_
 exact (by simp only [Xa7, List.map_cons, List.map_nil, Xal, hv49.strip, XaX, Xa3, eI, eB, eS])
def F52 (k : Nat) (a0 : Int) : Option Str :=
 if decide (a0 < 128) then
 some (Str.of (some [cv .u8 a0]))
 else
 if decide (a0 < 256) then
 some (Str.of (some [129, cv .u8 a0]))
 else
 (Xln .i64 a0 8).bind fun z1 =>
 some (Str.of (some [130, cv .u8 z1, cv .u8 a0]))
theorem s52 : ∀ k : Nat, ∀ {a0 : Int} {r : Str}, F52 k a0 = some r → Q 52 [(.int .i64 a0)] (.str r) := by
 intro k a0 r h
 unfold F52 at h
 refine Qg (pf := XuQ) rfl rfl rfl fun H => ?_
 refine B_ <| us 1 rfl <| A_ <| I_ <| R_ <| B_ <| us 3 rfl <| A_ ?_
 rcases Xa1 h with ⟨hc1, h⟩ | ⟨hc1, h⟩
 refine F_ rfl hc1 <| B_ <| us 2 rfl <| WS rfl (nz rfl (Xaj (ys := [cv .u8 a0]) (f := (eI .u8)) (parts := [(0, (.int .u8 (cv .u8 a0)))]) rfl rfl rfl rfl rfl rfl (fc ⟨rfl, rfl⟩ (fun p hp => nomatch hp)) rfl)) ?_
 have hv2 : Xa8 (eI .u8) (some [cv .u8 a0]) _ := ⟨.full, rfl⟩
 refine w (.str (Str.of (some [cv .u8 a0]))) rfl (nz (Xaw hv2.frz rfl) (Xb9 rfl hv2 rfl rfl rfl)) <| us 1 rfl <| A_ <| Q_ <| P_ <| H_ ?_
 cases oi h
 exact Kr (.str (Str.of (some [cv .u8 a0]))) rfl rfl
 refine G_ rfl hc1 <| B_ <| us 3 rfl <| A_ ?_
 rcases Xa1 h with ⟨hc3, h⟩ | ⟨hc3, h⟩
 refine F_ rfl hc3 <| B_ <| us 2 rfl <| WS rfl (nz rfl (Xaj (ys := [129, cv .u8 a0]) (f := (eI .u8)) (parts := [(0, (.int .u8 129)), (1, (.int .u8 (cv .u8 a0)))]) rfl rfl rfl rfl rfl rfl (fc ⟨rfl, rfl⟩ (fc ⟨rfl, rfl⟩ (fun p hp => nomatch hp))) rfl)) ?_
 have hv4 : Xa8 (eI .u8) (some [129, cv .u8 a0]) _ := ⟨.full, rfl⟩
 refine w (.str (Str.of (some [129, cv .u8 a0]))) rfl (nz (Xaw hv4.frz rfl) (Xb9 rfl hv4 rfl rfl rfl)) <| us 1 rfl <| A_ <| Q_ <| P_ <| H_ ?_
 cases oi h
 exact Kr (.str (Str.of (some [129, cv .u8 a0]))) rfl rfl
 refine G_ rfl hc3 <| M_ <| V_ <| C_ <| B_ <| us 1 rfl ?_
 obtain ⟨z5, hz5, h⟩ := Xaf h
 refine w (.int .i64 z5) rfl (nz rfl (XfU rfl rfl hz5)) <| us 3 rfl <| WS rfl (nz rfl (Xaj (ys := [130, cv .u8 z5, cv .u8 a0]) (f := (eI .u8)) (parts := [(0, (.int .u8 130)), (1, (.int .u8 (cv .u8 z5))), (2, (.int .u8 (cv .u8 a0)))]) rfl rfl rfl rfl rfl rfl (fc ⟨rfl, rfl⟩ (fc ⟨rfl, rfl⟩ (fc ⟨rfl, rfl⟩ (fun p hp => nomatch hp)))) rfl)) ?_
 have hv6 : Xa8 (eI .u8) (some [130, cv .u8 z5, cv .u8 a0]) _ := ⟨.full, rfl⟩
 refine w (.str (Str.of (some [130, cv .u8 z5, cv .u8 a0]))) rfl (nz (Xaw hv6.frz rfl) (Xb9 rfl hv6 rfl rfl rfl)) <| us 1 rfl <| A_ <| Q_ ?_
 cases oi h
 exact Kr (.str (Str.of (some [130, cv .u8 z5, cv .u8 a0]))) rfl rfl
def Xfk (rc0 : Xab → Option Int) (k : Nat) (a1 : Sl Xab) (a2 : Int) : Nat → Int → Int → Option (Int × Int)
 | 0, _, _ => none
 | n + 1, x3, x4 =>
  if decide (x4 < a2) then
  (Sl.at? a1 x4).bind fun y5 =>
  (rc0 y5).bind fun y6 =>
  Xfk rc0 k a1 a2 n (ad .i64 x3 y6) (ad .i64 x4 1)
  else
  some (x3, x4)
def F23 : Nat → Xab → Option Int
 | 0, _ => none
 | k + 1, a0 =>
  (Xfk (F23 k) k a0.Kids (Sl.len a0.Kids) k (Str.len a0.Body) 0).bind fun y1 =>
  (F52 k (Xkb y1.1 4001)).bind fun y2 =>
  some (ad .i64 (ad .i64 1 (Str.len y2)) y1.1)
theorem XsC {rc0 : Xab → Option Int} (hrc0 : ∀ {a0 : Xab} {r : Int}, rc0 a0 = some r → Q 23 [(.agg (Xaa a0))] (.int .i64 r)) {k : Nat} {a1 : Sl Xab} {a2 : Int} {S0 : List SObj} {R : List Nat} {K : KX}  {o : (Int × Int)}
  (hbrk : EK [(3, (.int .i64 o.1))] S0 R [] [] [] (K (.exit 0))) :
  ∀ {n : Nat} {x3 : Int} {x4 : Int}, Xfk rc0 k a1 a2 n x3 x4 = some o → ∀ {σ : Nat → PV} {S : List SObj}, Xa2 [(3, (.int .i64 x3)), (10, (Xar Xac a1)), (11, (.int .i64 a2)), (12, (.int .i64 x4))] σ → Hp S0 R S [] [] [] → WC env ⟨28, S0.length⟩ (.loop Xqw) σ S false K := by
 intro n
 induction n with
 | zero => intro _ _ h; cases h
 | succ n ih =>
  intro x3 x4 h σ S  hk H
  rw [Xfk] at h
  refine b_ <| X_ hk <| B_ <| us 1 rfl <| A_ <| I_ ?_
  rcases Xa1 h with ⟨hc5, h⟩ | ⟨hc5, h⟩
  refine F_ rfl hc5 <| M_ <| C_ <| I_ <| R_ <| B_ ?_
  obtain ⟨y6, hy6, h⟩ := Xaf h
  refine Wx hy6 (XaD _) rfl <| us 1 rfl <| Wa (ti := XbA) H rfl ?_
  intro i7 S hi7 H
  refine Ws 0 H hi7 rfl ?_
  intro S H
  refine A_ <| S_ <| us 1 rfl <| Wg H 0 rfl ?_
  obtain ⟨y8, hy8, h⟩ := Xaf h
  refine Cl (.int .i64 y8) [(.agg (Xaa y6))] rfl rfl (sv (hrc0 hy8)) <| us 2 rfl <| A_ <| V_ <| C_ <| S_ <| us 2 rfl <| A_ <| C_ ?_
  exact ih h  kn (H.sub (.cons _ .slnil) .slnil .slnil)
  refine G_ rfl hc5 <| Y_ <| K_ <| K_ ?_
  cases oi h
  exact hbrk  kn (hs H)
theorem s23 : ∀ k : Nat, ∀ {a0 : Xab} {r : Int}, F23 k a0 = some r → Q 23 [(.agg (Xaa a0))] (.int .i64 r) := by
 intro k
 induction k with
 | zero => intro _ r h; cases h
 | succ k ih =>
  intro a0 r h
  rw [F23] at h
  refine Qg (pf := XuR) rfl cq rfl fun H => ?_
  refine B_ <| Wb H rfl ?_
  intro i1 S hi1 H
  refine us 1 rfl <| A_ <| B_ <| us 1 rfl <| Wg H 0 rfl <| us 2 rfl <| A_ <| I_ <| B_ <| us 1 rfl <| Wg H 0 rfl <| Wl rfl <| us 1 rfl <| A_ ?_
  obtain ⟨y2, hy2, hOy2⟩ := Xaf h
  refine R_ ?_
  refine XsC ih ?_ hy2  kn (H.sub (.cons _ .slnil) .slnil .slnil)
  intro σ S  hk H; replace h := hOy2
  refine J_ hk <| U_ <| C_ <| B_ <| us 2 rfl ?_
  obtain ⟨y3, hy3, h⟩ := Xaf h
  refine Cl (.str y3) [(.int .i64 (Xkb y2.1 4001))] rfl rfl (s52 _ hy3 rfl) <| us 5 rfl <| A_ <| Q_ ?_
  cases oi h
  exact Kr (.int .i64 (ad .i64 (ad .i64 1 (Str.len y3)) y2.1)) rfl rfl
def F82 (k : Nat) (rc0 : Xab → Option Bool) (a0 : Xab) : Option Bool :=
 (rc0 a0).bind fun y2 =>
 some (!y2)
theorem s82 {rc0 : Xab → Option Bool} (hrc0 : ∀ {a0 : Xab} {r : Bool}, rc0 a0 = some r → Q 53 [(.agg (Xaa a0))] (.bool r))  : ∀ k : Nat, ∀ {a0 : Xab} {r : Bool}, F82 k rc0 a0 = some r → Q 82 [(.agg (Xaa a0))] (.bool r) := by
 intro k a0 r h
 unfold F82 at h
 refine Qg (pf := Xwb) rfl cq rfl fun H => ?_
 refine B_ <| Wb H rfl ?_
 intro i1 S hi1 H
 refine us 1 rfl <| A_ <| B_ <| Wg H 0 rfl ?_
 obtain ⟨y2, hy2, h⟩ := Xaf h
 refine Cl (.bool y2) [(.agg (Xaa a0))] rfl rfl (sv (hrc0 hy2)) <| us 2 rfl <| A_ <| Q_ ?_
 cases oi h
 exact Kr (.bool (!y2)) rfl rfl
def Xce (rc0 : Xab → Option Bool) (k : Nat) (a1 : Sl Xab) (a2 : Int) : Nat → Int → Option (Out Int Int)
 | 0, _ => none
 | n + 1, x3 =>
  if decide (x3 < a2) then
  (Sl.at? a1 x3).bind fun y4 =>
  (F82 k rc0 y4).bind fun y5 =>
  if y5 then
  some (Out.ret x3)
  else
  Xce rc0 k a1 a2 n (ad .i64 x3 1)
  else
  some (Out.brk x3)
def Xel (k : Nat) (rc0 : Xab → Option Bool) (a0 : Sl Xab) : Option Int :=
 (Xce rc0 k a0 (Sl.len a0) k 0).bind fun y1 =>
 match y1 with
 | .ret y1r => some y1r
 | .brk y1b =>
 some (-1)
theorem Xkj {rc0 : Xab → Option Bool} (hrc0 : ∀ {a0 : Xab} {r : Bool}, rc0 a0 = some r → Q 53 [(.agg (Xaa a0))] (.bool r)) {k : Nat} {a1 : Sl Xab} {a2 : Int} {S0 : List SObj} {R : List Nat} {K : KX}  {o : Out Int Int}
  (hret : ∀ r : Int, o = .ret r → EK [(4, (.int .i64 r))] S0 R [] [] [] (K .ret))
  (hbrk : ∀ y : Int, o = .brk y → EK [] S0 R [] [] [] (K (.exit 0))) :
  ∀ {n : Nat} {x3 : Int}, Xce rc0 k a1 a2 n x3 = some o → ∀ {σ : Nat → PV} {S : List SObj}, Xa2 [(0, (Xar Xac a1)), (1, (.fn (.func 82) [] [])), (7, (.int .i64 a2)), (8, (.int .i64 x3))] σ → Hp S0 R S [] [] [] → WC env ⟨19, S0.length⟩ (.loop Xnn) σ S false K := by
 intro n
 induction n with
 | zero => intro _ h; cases h
 | succ n ih =>
  intro x3 h σ S  hk H
  rw [Xce] at h
  refine b_ <| X_ hk <| B_ <| us 1 rfl <| A_ <| I_ ?_
  rcases Xa1 h with ⟨hc4, h⟩ | ⟨hc4, h⟩
  refine F_ rfl hc4 <| M_ <| C_ <| I_ <| R_ <| B_ <| us 2 rfl <| A_ <| B_ <| us 3 rfl ?_
  obtain ⟨y5, hy5, h⟩ := Xaf h
  refine Wx hy5 (XaD _) rfl <| us 1 rfl ?_
  obtain ⟨y6, hy6, h⟩ := Xaf h
  refine Cl (.bool y6) [(.agg (Xaa y5))] rfl rfl (sv (s82 hrc0 _ hy6)) <| A_ ?_
  rcases Xa1 h with ⟨hc7, h⟩ | ⟨hc7, h⟩
  refine F_ rfl hc7 <| B_ <| us 2 rfl <| A_ <| Q_ <| P_ <| H_ <| H_ ?_
  cases oi h
  exact hret _ rfl kn (hs H)
  refine G_ rfl hc7 <| M_ <| V_ <| C_ <| S_ <| us 2 rfl <| A_ <| C_ ?_
  exact ih h  kn (hs H)
  refine G_ rfl hc4 <| Y_ <| K_ <| K_ ?_
  cases oi h
  exact hbrk _ rfl  m_ (hs H)
theorem Xog {rc0 : Xab → Option Bool} (hrc0 : ∀ {a0 : Xab} {r : Bool}, rc0 a0 = some r → Q 53 [(.agg (Xaa a0))] (.bool r))  : ∀ k : Nat, ∀ {a0 : Sl Xab} {r : Int}, Xel k rc0 a0 = some r → Q 105 [(Xar Xac a0), (.fn (.func 82) [] [])] (.int .i64 r) := by
 intro k a0 r h
 unfold Xel at h
 refine Qg (pf := Xno) rfl cq rfl fun H => ?_
 refine B_ <| us 1 rfl <| A_ <| I_ <| B_ <| us 1 rfl <| Wl rfl <| us 1 rfl <| A_ ?_
 obtain ⟨y1, hy1, hOy1⟩ := Xaf h
 refine R_ ?_
 refine Xkj hrc0 ?_ ?_ hy1  kn (hs H)
 intro y1r he σ S  hk H; subst he; replace h := hOy1; dsimp only at h
 refine J_ hk <| P_ <| H_ ?_
 have h := oi h; subst h
 exact Kr (.int .i64 y1r) rfl rfl
 intro y1b he σ S  hk H; subst he; replace h := hOy1; dsimp only at h
 refine J_ hk <| U_ <| C_ <| B_ <| us 1 rfl <| A_ <| Q_ ?_
 have h := oi h; subst h
 exact Kr (.int .i64 (-1)) rfl rfl
def Xe7 (k : Nat) (rc0 : Xab → Option Bool) (a0 : Sl Xab) : Option Bool :=
 (Xel k rc0 a0).bind fun y1 =>
 some (decide (y1 ≥ 0))
theorem XsD {rc0 : Xab → Option Bool} (hrc0 : ∀ {a0 : Xab} {r : Bool}, rc0 a0 = some r → Q 53 [(.agg (Xaa a0))] (.bool r))  : ∀ k : Nat, ∀ {a0 : Sl Xab} {r : Bool}, Xe7 k rc0 a0 = some r → Q 81 [(Xar Xac a0), (.fn (.func 82) [] [])] (.bool r) := by
 intro k a0 r h
 unfold Xe7 at h
 refine Qg (pf := XuU) rfl cq rfl fun H => ?_
 refine B_ <| us 1 rfl <| A_ <| B_ <| us 2 rfl ?_
 obtain ⟨y1, hy1, h⟩ := Xaf h
 refine Cl (.int .i64 y1) [(Xar Xac a0), (.fn (.func 82) [] [])] rfl (fe rfl (Xaw rfl rfl)) (sv (Xog hrc0 _ hy1)) <| us 2 rfl <| A_ <| Q_ ?_
 cases oi h
 exact Kr (.bool (decide (y1 ≥ 0))) rfl rfl
def F53 : Nat → Xab → Option Bool
 | 0, _ => none
 | k + 1, a0 =>
  if (Xej .u8 a0.Tag 31) == 31 then
  some false
  else
  if (Xej .u8 a0.Tag 32) == 0 then
  some ((Sl.len a0.Kids) == 0)
  else
  (if a0.Body == [] then
  (Xe7 k (F53 k) a0.Kids).bind fun y1 =>
  some (!y1)
  else
  some false).bind fun y2 =>
  some y2
theorem s53 : ∀ k : Nat, ∀ {a0 : Xab} {r : Bool}, F53 k a0 = some r → Q 53 [(.agg (Xaa a0))] (.bool r) := by
 intro k
 induction k with
 | zero => intro _ r h; cases h
 | succ k ih =>
  intro a0 r h
  rw [F53] at h
  refine Qg (pf := XuW) rfl cq rfl fun H => ?_
  refine B_ <| Wb H rfl ?_
  intro i1 S hi1 H
  refine us 1 rfl <| A_ <| I_ <| R_ <| B_ <| us 1 rfl <| Wg H 0 rfl <| us 3 rfl <| A_ ?_
  rcases Xa1 h with ⟨hc2, h⟩ | ⟨hc2, h⟩
  refine F_ rfl hc2 <| B_ <| us 1 rfl <| A_ <| Q_ <| P_ <| H_ ?_
  have h := oi h; subst h
  exact Kr (.bool false) rfl rfl
  refine G_ rfl hc2 <| B_ <| us 1 rfl <| Wg H 0 rfl <| us 3 rfl <| A_ ?_
  rcases Xa1 h with ⟨hc3, h⟩ | ⟨hc3, h⟩
  refine F_ rfl hc3 <| B_ <| us 1 rfl <| Wg H 0 rfl <| Wl rfl <| us 2 rfl <| A_ <| Q_ <| P_ <| H_ ?_
  have h := oi h; subst h
  exact Kr (.bool ((Sl.len a0.Kids) == 0)) rfl rfl
  refine G_ rfl hc3 <| M_ <| V_ <| C_ <| B_ <| us 1 rfl <| Wg H 0 rfl <| w (.bool (a0.Body == [])) rfl rfl <| w (.bool (a0.Body == [])) rfl rfl ?_
  obtain ⟨y4, hy4, hOy4⟩ := Xaf h
  refine O_ 5 (SJ [(25, (.bool y4))] [] [] [(i1, .cells (Xaa a0))] [] [] false) ?_ ?_
  replace h := hy4
  revert H
  cases hc5 : (a0.Body == [])
  intro H
  replace h := Xc5 h hc5
  refine us 5 rfl <| A_ ?_
  have h := oi h; subst h
  exact kh H
  intro H
  replace h := Xc4 h hc5
  refine us 1 rfl <| N_ rfl rfl <| Wg H 0 rfl <| N_ rfl rfl ?_
  obtain ⟨y6, hy6, h⟩ := Xaf h
  refine Cl (.bool y6) [(Xar Xac a0.Kids), (.fn (.func 82) [] [])] rfl (fe rfl (fo rfl rfl)) (sv (XsD ih _ hy6)) <| us 2 rfl <| A_ ?_
  have h := oi h; subst h
  exact kh H
  rintro σ S e ⟨hk, H, rfl⟩
  replace h := hOy4
  refine E_ hk <| us 1 rfl <| A_ <| Q_ ?_
  have h := oi h; subst h
  exact Kr (.bool y4) rfl rfl
def Xgo (rc0 : Xab → Option Int) (k : Nat) (a1 : Sl Xab) (a2 : Int) : Nat → Int → Int → Option (Int × Int)
 | 0, _, _ => none
 | n + 1, x3, x4 =>
  if decide (x4 < a2) then
  (Sl.at? a1 x4).bind fun y5 =>
  (rc0 y5).bind fun y6 =>
  Xgo rc0 k a1 a2 n (Xtw x3 y6) (ad .i64 x4 1)
  else
  some (x3, x4)
def F54 : Nat → Xab → Option Int
 | 0, _ => none
 | k + 1, a0 =>
  (Xgo (F54 k) k a0.Kids (Sl.len a0.Kids) k 0 0).bind fun y1 =>
  some (ad .i64 y1.1 1)
theorem XsE {rc0 : Xab → Option Int} (hrc0 : ∀ {a0 : Xab} {r : Int}, rc0 a0 = some r → Q 54 [(.agg (Xaa a0))] (.int .i64 r)) {k : Nat} {a1 : Sl Xab} {a2 : Int} {S0 : List SObj} {R : List Nat} {K : KX}  {o : (Int × Int)}
  (hbrk : EK [(3, (.int .i64 o.1))] S0 R [] [] [] (K (.exit 0))) :
  ∀ {n : Nat} {x3 : Int} {x4 : Int}, Xgo rc0 k a1 a2 n x3 x4 = some o → ∀ {σ : Nat → PV} {S : List SObj}, Xa2 [(3, (.int .i64 x3)), (7, (Xar Xac a1)), (8, (.int .i64 a2)), (9, (.int .i64 x4))] σ → Hp S0 R S [] [] [] → WC env ⟨20, S0.length⟩ (.loop Xq1) σ S false K := by
 intro n
 induction n with
 | zero => intro _ _ h; cases h
 | succ n ih =>
  intro x3 x4 h σ S  hk H
  rw [Xgo] at h
  refine b_ <| X_ hk <| B_ <| us 1 rfl <| A_ <| I_ ?_
  rcases Xa1 h with ⟨hc5, h⟩ | ⟨hc5, h⟩
  refine F_ rfl hc5 <| M_ <| C_ <| I_ <| R_ <| B_ ?_
  obtain ⟨y6, hy6, h⟩ := Xaf h
  refine Wx hy6 (XaD _) rfl <| us 1 rfl <| Wa (ti := XbA) H rfl ?_
  intro i7 S hi7 H
  refine Ws 0 H hi7 rfl ?_
  intro S H
  refine A_ <| S_ <| us 1 rfl <| Wg H 0 rfl ?_
  obtain ⟨y8, hy8, h⟩ := Xaf h
  refine Cl (.int .i64 y8) [(.agg (Xaa y6))] rfl rfl (sv (hrc0 hy8)) <| us 2 rfl <| A_ <| V_ <| C_ <| S_ <| us 2 rfl <| A_ <| C_ ?_
  exact ih h  kn (H.sub (.cons _ .slnil) .slnil .slnil)
  refine G_ rfl hc5 <| Y_ <| K_ <| K_ ?_
  cases oi h
  exact hbrk  kn (hs H)
theorem s54 : ∀ k : Nat, ∀ {a0 : Xab} {r : Int}, F54 k a0 = some r → Q 54 [(.agg (Xaa a0))] (.int .i64 r) := by
 intro k
 induction k with
 | zero => intro _ r h; cases h
 | succ k ih =>
  intro a0 r h
  rw [F54] at h
  refine Qg (pf := XuX) rfl cq rfl fun H => ?_
  refine B_ <| Wb H rfl ?_
  intro i1 S hi1 H
  refine us 1 rfl <| A_ <| B_ <| us 1 rfl <| A_ <| I_ <| B_ <| us 1 rfl <| Wg H 0 rfl <| Wl rfl <| us 1 rfl <| A_ ?_
  obtain ⟨y2, hy2, hOy2⟩ := Xaf h
  refine R_ ?_
  refine XsE ih ?_ hy2  kn (H.sub (.cons _ .slnil) .slnil .slnil)
  intro σ S  hk H; replace h := hOy2
  refine J_ hk <| U_ <| C_ <| B_ <| us 3 rfl <| A_ <| Q_ ?_
  cases oi h
  exact Kr (.int .i64 (ad .i64 y2.1 1)) rfl rfl
def Xdy (rc0 : Xab → Option (Str × Bool)) (k : Nat) (a1 : Sl Xab) (a2 : Int) (a3 : Xab) : Nat → (Sl Int) → Int → Option (Out (Str × Bool) ((Sl Int) × Int))
 | 0, _, _ => none
 | n + 1, x4, x5 =>
  if decide (x5 < a2) then
  (Sl.at? a1 x5).bind fun y6 =>
  (rc0 y6).bind fun y7 =>
  if (!y7.2) || (decide ((ad .i64 (Sl.len x4) (Str.len y7.1)) > 4000)) then
  some (Out.ret ([], false))
  else
  (Sl.app? 1 x4 (Sl.l (Str.bytes y7.1))).bind fun z8 =>
  Xdy rc0 k a1 a2 a3 n z8 (ad .i64 x5 1)
  else
  some (Out.brk (x4, x5))
def F55 : Nat → Xab → Option (Str × Bool)
 | 0, _ => none
 | k + 1, a0 =>
  (Xdy (F55 k) k a0.Kids (Sl.len a0.Kids) a0 k (Str.bytes a0.Body) 0).bind fun y1 =>
  match y1 with
  | .ret y1r => some (y1r.1, y1r.2)
  | .brk y1b =>
  if decide ((Sl.len y1b.1) > 4000) then
  some ([], false)
  else
  (F52 k (Sl.len y1b.1)).bind fun y2 =>
  (Str.app? (Str.of (some [a0.Tag])) y2).bind fun z3 =>
  (Str.app? z3 (Str.of y1b.1)).bind fun z4 =>
  some (z4, true)
theorem XsF {rc0 : Xab → Option (Str × Bool)} (hrc0 : ∀ {a0 : Xab} {r : Str × Bool}, rc0 a0 = some r → Q 55 [(.agg (Xaa a0))] (.tup [(.str r.1), (.bool r.2)])) {k : Nat} {a2 : Sl Xab} {a3 : Int} {a4 : Xab} {S0 : List SObj} {R : List Nat} {K : KX} {i1 : Nat} (hi1 : S0.length ≤ i1)  {o : Out (Str × Bool) ((Sl Int) × Int)}
  (hret : ∀ r : Str × Bool, o = .ret r → EK [(2, (.str r.1)), (3, (.bool r.2))] S0 R [] [] [] (K .ret))
  (hbrk : ∀ y : (Sl Int) × Int, o = .brk y → ∀ {σ' : Nat → PV} {S' : List SObj}, ∀ (v6 : PV) (_ : Xa8 (eI .u8) y.1 v6), Xa2 [(1, (.ptr i1 0)), (4, v6)] σ' → Hp S0 R S' [(i1, .cells (Xaa a4))] [(v6, 1)] [] → K (.exit 0) σ' S' false) :
  ∀ {n : Nat} {x7 : Sl Int} {x8 : Int}, Xdy rc0 k a2 a3 a4 n x7 x8 = some o → ∀ {σ : Nat → PV} {S : List SObj}, ∀ (v9 : PV) (_ : Xa8 (eI .u8) x7 v9), Xa2 [(1, (.ptr i1 0)), (4, v9), (13, (Xar Xac a2)), (14, (.int .i64 a3)), (15, (.int .i64 x8))] σ → Hp S0 R S [(i1, .cells (Xaa a4))] [(v9, 1)] [] → WC env ⟨52, S0.length⟩ (.loop Xq4) σ S false K := by
 intro n
 induction n with
 | zero => intro _ _ h; cases h
 | succ n ih =>
  intro x7 x8 h σ S v9 hv9 hk H
  rw [Xdy] at h
  refine b_ <| X_ hk <| B_ <| us 1 rfl <| A_ <| I_ ?_
  rcases Xa1 h with ⟨hc10, h⟩ | ⟨hc10, h⟩
  refine F_ rfl hc10 <| M_ <| C_ <| I_ <| R_ <| B_ ?_
  obtain ⟨y11, hy11, h⟩ := Xaf h
  refine Wx hy11 (XaD _) rfl <| us 1 rfl <| Wa (ti := XbA) H rfl ?_
  intro i12 S hi12 H
  refine Ws 0 H hi12 rfl ?_
  intro S H
  refine A_ <| B_ <| Wg H 0 rfl ?_
  obtain ⟨y13, hy13, h⟩ := Xaf h
  refine Cl (.tup [(.str y13.1), (.bool y13.2)]) [(.agg (Xaa y11))] rfl rfl (sv (hrc0 hy13)) <| us 5 rfl <| A_ <| I_ <| B_ <| us 1 rfl <| w (.bool (!y13.2)) rfl rfl <| w (.bool (!y13.2)) rfl rfl ?_
  refine O_ 7 (SH H [(1, (.ptr i1 0)), (4, v9), (7, (.str y13.1)), (13, (Xar Xac a2)), (14, (.int .i64 a3)), (15, (.int .i64 x8)), (33, (.bool ((!y13.2) || (decide ((ad .i64 (Sl.len x7) (Str.len y13.1)) > 4000)))))]) ?_ ?_
  revert H
  cases hc14 : (!y13.2)
  intro H
  refine N_ rfl rfl <| w v9 rfl rfl <| N_ rfl rfl <| w (.int .i64 (Sl.len x7)) rfl (nz rfl (XdC rfl hv9 rfl)) <| us 5 rfl <| A_ ?_
  exact kf H
  intro H
  refine us 7 rfl <| A_ ?_
  exact kf H
  rintro σ S e ⟨hk, H, rfl⟩
  refine E_ hk <| A_ ?_
  rcases Xa1 h with ⟨hc15, h⟩ | ⟨hc15, h⟩
  refine F_ rfl hc15 <| B_ <| us 2 rfl <| A_ <| Q_ <| H_ <| P_ <| H_ <| H_ ?_
  cases oi h
  exact hret _ rfl kn (H.sub (.cons _ (.cons _ .slnil)) (.cons _ .slnil) .slnil)
  refine G_ rfl hc15 <| M_ <| C_ <| S_ <| w v9 rfl rfl <| us 1 rfl ?_
  obtain ⟨z16, hz16, h⟩ := Xaf h
  refine WO.ex rfl (nzx rfl (Xkc (ei := ty5) H 0 rfl rfl hv9 rfl rfl rfl rfl rfl hz16)) ?_
  rintro v17 S ⟨hv17, H⟩
  refine w v17 rfl rfl <| A_ <| V_ <| C_ <| S_ <| us 2 rfl <| A_ <| C_ ?_
  exact ih h v17 (hv17) kn (H.sub (.cons _ (.cons_cons _ .slnil)) (.cons_cons _ .slnil) .slnil)
  refine G_ rfl hc10 <| Y_ <| K_ <| K_ ?_
  cases oi h
  exact hbrk _ rfl v9 (hv9) kn (hs H)
theorem s55 : ∀ k : Nat, ∀ {a0 : Xab} {r : Str × Bool}, F55 k a0 = some r → Q 55 [(.agg (Xaa a0))] (.tup [(.str r.1), (.bool r.2)]) := by
 intro k
 induction k with
 | zero => intro _ r h; cases h
 | succ k ih =>
  intro a0 r h
  rw [F55] at h
  refine Qg (pf := XuY) rfl cq rfl fun H => ?_
  refine B_ <| Wb H rfl ?_
  intro i1 S hi1 H
  refine us 2 rfl <| A_ <| B_ <| us 1 rfl <| Wg H 0 rfl <| WO.ex rfl (nzx rfl (Xe2 rfl rfl rfl rfl H)) ?_
  rintro v2 S ⟨hv2, H⟩
  refine w v2 rfl rfl <| A_ <| I_ <| B_ <| us 1 rfl <| Wg H 0 rfl <| Wl rfl <| us 1 rfl <| A_ ?_
  obtain ⟨y3, hy3, hOy3⟩ := Xaf h
  refine R_ ?_
  refine XsF ih hi1 ?_ ?_ hy3 v2 (hv2) kn (hs H)
  intro y3r he σ S  hk H; subst he; replace h := hOy3; dsimp only at h
  refine J_ hk <| P_ <| H_ ?_
  cases oi h
  refine Z_ (vs := [(.str y3r.1), (.bool y3r.2)]) (T_ rfl (T_ rfl Xas)) (L_ rfl (L_ rfl rfl)) ?_
  exact rfl
  intro y3b he σ S v4 hv4 hk H; subst he; replace h := hOy3; dsimp only at h
  refine J_ hk <| U_ <| C_ <| I_ <| B_ <| w v4 rfl rfl <| w (.int .i64 (Sl.len y3b.1)) rfl (nz rfl (XdC rfl hv4 rfl)) <| us 1 rfl <| A_ ?_
  rcases Xa1 h with ⟨hc5, h⟩ | ⟨hc5, h⟩
  refine F_ rfl hc5 <| B_ <| us 2 rfl <| A_ <| Q_ <| H_ ?_
  cases oi h
  refine Z_ (vs := [(.str []), (.bool false)]) (T_ rfl (T_ rfl Xas)) (L_ rfl (L_ rfl rfl)) ?_
  exact rfl
  refine G_ rfl hc5 <| M_ <| C_ <| I_ <| h_ <| wh _ rfl rfl <| Wgh H 0 rfl <| k_ rfl (nz rfl (Xaj (ys := [a0.Tag]) (f := (eI .u8)) (parts := [(0, (.int .u8 a0.Tag))]) rfl rfl rfl rfl rfl rfl (fc ⟨rfl, rfl⟩ (fun p hp => nomatch hp)) rfl)) rfl rfl ?_
  have hv6 : Xa8 (eI .u8) (some [a0.Tag]) _ := ⟨.full, rfl⟩
  refine k_ (v := (.str (Str.of (some [a0.Tag])))) rfl (nz (Xaw hv6.frz rfl) (Xb9 rfl hv6 rfl rfl rfl)) rfl rfl <| wh _ rfl rfl <| k_ (v := (.int .i64 (Sl.len y3b.1))) rfl (nz rfl (XdC rfl hv4 rfl)) rfl rfl ?_
  obtain ⟨y7, hy7, h⟩ := Xaf h
  refine Clh (.str y7) [(.int .i64 (Sl.len y3b.1))] rfl rfl (s52 _ hy7 rfl) ?_
  obtain ⟨z8, hz8, h⟩ := Xaf h
  refine k_ (v := .str z8) rfl (nz rfl (Xcc rfl rfl hz8)) rfl rfl <| wh _ rfl rfl <| k_ (v := (.str (Str.of y3b.1))) rfl (nz (Xaw hv4.frz rfl) (Xb9 rfl hv4 rfl rfl rfl)) rfl rfl <| f_ ?_
  obtain ⟨z9, hz9, h⟩ := Xaf h
  refine w (.str z9) rfl (nz rfl (Xcc rfl rfl hz9)) <| us 2 rfl <| A_ <| C_ <| Q_ ?_
  cases oi h
  refine Z_ (vs := [(.str z9), (.bool true)]) (T_ rfl (T_ rfl Xas)) (L_ rfl (L_ rfl rfl)) ?_
  exact rfl
def F24 (k : Nat) (a0 : Xab) : Option (Str × Int) :=
 (F53 k a0).bind fun y2 =>
 if !y2 then
 some ([], 14)
 else
 (F54 k a0).bind fun y4 =>
 if decide (y4 > 20) then
 some ([], 12)
 else
 (F55 k a0).bind fun y6 =>
 if !y6.2 then
 some ([], 13)
 else
 some (y6.1, 0)
theorem s24 : ∀ k : Nat, ∀ {a0 : Xab} {r : Str × Int}, F24 k a0 = some r → Q 24 [(.agg (Xaa a0))] (.tup [(.str r.1), (.int .i64 r.2)]) := by
 intro k a0 r h
 unfold F24 at h
 refine Qg (pf := Xva) rfl cq rfl fun H => ?_
 refine B_ <| Wb H rfl ?_
 intro i1 S hi1 H
 refine us 2 rfl <| A_ <| I_ <| B_ <| Wg H 0 rfl ?_
 obtain ⟨y2, hy2, h⟩ := Xaf h
 refine Cl (.bool y2) [(.agg (Xaa a0))] rfl rfl (sv (s53 _ hy2)) <| us 1 rfl <| A_ ?_
 rcases Xa1 h with ⟨hc3, h⟩ | ⟨hc3, h⟩
 refine F_ rfl hc3 <| B_ <| us 2 rfl <| A_ <| Q_ <| H_ ?_
 cases oi h
 refine Z_ (vs := [(.str []), (.int .i64 14)]) (T_ rfl (T_ rfl Xas)) (L_ rfl (L_ rfl rfl)) ?_
 exact rfl
 refine G_ rfl hc3 <| M_ <| C_ <| I_ <| B_ <| Wg H 0 rfl ?_
 obtain ⟨y4, hy4, h⟩ := Xaf h
 refine Cl (.int .i64 y4) [(.agg (Xaa a0))] rfl rfl (sv (s54 _ hy4)) <| us 1 rfl <| A_ ?_
 rcases Xa1 h with ⟨hc9, h⟩ | ⟨hc9, h⟩
 refine F_ rfl hc9 <| B_ <| us 2 rfl <| A_ <| Q_ <| H_ ?_
 cases oi h
 refine Z_ (vs := [(.str []), (.int .i64 12)]) (T_ rfl (T_ rfl Xas)) (L_ rfl (L_ rfl rfl)) ?_
 exact rfl
 refine G_ rfl hc9 <| M_ <| C_ <| B_ <| Wg H 0 rfl ?_
 obtain ⟨y6, hy6, h⟩ := Xaf h
 refine Cl (.tup [(.str y6.1), (.bool y6.2)]) [(.agg (Xaa a0))] rfl rfl (sv (s55 _ hy6)) <| us 5 rfl <| A_ <| I_ <| B_ <| us 2 rfl <| A_ ?_
 rcases Xa1 h with ⟨hc8, h⟩ | ⟨hc8, h⟩
 refine F_ rfl hc8 <| B_ <| us 2 rfl <| A_ <| Q_ <| H_ ?_
 cases oi h
 refine Z_ (vs := [(.str []), (.int .i64 13)]) (T_ rfl (T_ rfl Xas)) (L_ rfl (L_ rfl rfl)) ?_
 exact rfl
 refine G_ rfl hc8 <| M_ <| C_ <| B_ <| us 3 rfl <| A_ <| Q_ ?_
 cases oi h
 refine Z_ (vs := [(.str y6.1), (.int .i64 0)]) (T_ rfl (T_ rfl Xas)) (L_ rfl (L_ rfl rfl)) ?_
 exact rfl
def F9 (k : Nat) (a0 : Xay) : Option (Str × Int) :=
 (F11 k a0).bind fun y2 =>
 if !y2 then
 some ([], 14)
 else
 (F18 k a0.Op a0.Of).bind fun y4 =>
 (F19 k y4 none).bind fun y5 =>
 (if a0.Op == 6 then
 (F20 k y4 a0.DN).bind fun y1 =>
 some y1
 else
 (if a0.Op == 2 then
 some y5
 else
 (F21 k a0).bind fun y3 =>
 (F19 k y4 y3).bind fun y6 =>
 some y6).bind fun y7 =>
 some y7).bind fun y8 =>
 (F22 k 2 a0.ID).bind fun y10 =>
 (F19 k 48 (some [y10, y8])).bind fun y11 =>
 (F23 k y11).bind fun y12 =>
 if decide (y12 > 4000) then
 some ([], 13)
 else
 (F24 k y11).bind fun y13 =>
 some (y13.1, y13.2)
theorem s9 : ∀ k : Nat, ∀ {a0 : Xay} {r : Str × Int}, F9 k a0 = some r → Q 9 [(.agg (Xak a0))] (.tup [(.str r.1), (.int .i64 r.2)]) := by
 intro k a0 r h
 unfold F9 at h
 refine Qg (pf := fn9) rfl cq rfl fun H => ?_
 refine B_ <| Wb H rfl ?_
 intro i1 S hi1 H
 refine us 2 rfl <| A_ <| I_ <| B_ <| Wg H 0 rfl ?_
 obtain ⟨y2, hy2, h⟩ := Xaf h
 refine Cl (.bool y2) [(.agg (Xak a0))] rfl rfl (sv (s11 _ hy2)) <| us 1 rfl <| A_ ?_
 rcases Xa1 h with ⟨hc3, h⟩ | ⟨hc3, h⟩
 refine F_ rfl hc3 <| B_ <| us 2 rfl <| A_ <| Q_ <| H_ ?_
 cases oi h
 refine Z_ (vs := [(.str []), (.int .i64 14)]) (T_ rfl (T_ rfl Xas)) (L_ rfl (L_ rfl rfl)) ?_
 exact rfl
 refine G_ rfl hc3 <| M_ <| C_ <| B_ <| us 1 rfl <| Wg H 0 rfl <| us 1 rfl <| Wg H 0 rfl ?_
 obtain ⟨y4, hy4, h⟩ := Xaf h
 refine Cl (.int .u8 y4) [(.int .i64 a0.Op), (.int .i64 a0.Of)] rfl rfl (s18 _ hy4 rfl) <| us 1 rfl <| A_ <| B_ <| us 1 rfl ?_
 obtain ⟨y5, hy5, h⟩ := Xaf h
 refine Cl (.agg (Xaa y5)) [(.int .u8 y4), .nils] rfl rfl (sv (s19 _ hy5)) <| Wa (ti := XbA) H rfl ?_
 intro i6 S hi6 H
 refine Ws 0 H hi6 rfl ?_
 intro S H
 refine A_ <| I_ <| B_ <| us 1 rfl <| Wg H 1 rfl <| A_ <| R_ <| B_ <| us 2 rfl <| A_ ?_
 obtain ⟨y7, hy7, hOy7⟩ := Xaf h
 refine a_ (SJ [(1, (.ptr i1 0)), (5, (.ptr i6 0))] [] [] [(i6, .cells (Xaa y7)), (i1, .cells (Xak a0))] [] [] false) ?_ ?_
 replace h := hy7
 rcases Xa1 h with ⟨hc8, h⟩ | ⟨hc8, h⟩
 refine F_ rfl hc8 <| S_ <| us 2 rfl <| Wg H 1 rfl ?_
 obtain ⟨y10, hy10, h⟩ := Xaf h
 refine Cl (.agg (Xaa y10)) [(.int .u8 y4), (.str a0.DN)] rfl rfl (s20 _ hy10 rfl) <| Ws 0 H hi6 rfl ?_
 intro S H
 refine A_ <| C_ ?_
 cases oi h
 exact kh H
 refine G_ rfl hc8 <| B_ <| us 2 rfl <| A_ ?_
 obtain ⟨y11, hy11, hOy11⟩ := Xaf h
 refine a_ (SJ [(1, (.ptr i1 0)), (5, (.ptr i6 0))] [] [] [(i6, .cells (Xaa y11)), (i1, .cells (Xak a0))] [] [] false) ?_ ?_
 replace h := hy11
 rcases Xa1 h with ⟨hc12, h⟩ | ⟨hc12, h⟩
 refine F_ rfl hc12 <| M_ <| C_ ?_
 cases oi h
 exact kh H
 refine G_ rfl hc12 <| S_ <| us 1 rfl <| Wg H 1 rfl ?_
 obtain ⟨y13, hy13, h⟩ := Xaf h
 refine Cl (Xar Xac y13) [(.agg (Xak a0))] rfl rfl (sv (s21 _ hy13)) ?_
 obtain ⟨y14, hy14, h⟩ := Xaf h
 refine Cl (.agg (Xaa y14)) [(.int .u8 y4), (Xar Xac y13)] rfl (Xaw rfl (fe rfl rfl)) (sv (s19 _ hy14)) <| Ws 0 H hi6 rfl ?_
 intro S H
 refine A_ <| C_ ?_
 cases oi h
 exact kh H
 rintro σ S e ⟨hk, H, rfl⟩
 replace h := hOy11
 refine J_ hk <| C_ ?_
 cases oi h
 exact kh H
 rintro σ S e ⟨hk, H, rfl⟩
 replace h := hOy7
 refine J_ hk <| V_ <| C_ <| I_ <| j_ <| wk _ rfl rfl rfl rfl <| wkl H 1 rfl rfl rfl rfl ?_
 obtain ⟨y15, hy15, h⟩ := Xaf h
 refine WK.step (v := (.agg (Xaa y15))) rfl (pz rfl rfl (show List.map PV.strip [(.int .u8 2), (.int .i64 a0.ID)] = [(.int .u8 2), (.int .i64 a0.ID)] from rfl) rfl (s22 _ hy15 (show List.map PV.strip [(.int .u8 2), (.int .i64 a0.ID)] = [(.int .u8 2), (.int .i64 a0.ID)] from rfl) []) cq (by simp only [Xax, List.map_cons, List.map_nil, Xap, Xaq, Xai, Xad, Xal])) rfl rfl rfl rfl <| wkl H 0 rfl rfl rfl rfl <| WK.step rfl (nz rfl (Xaj (ys := [y15, y7]) (f := Xac) (parts := [(0, (.agg (Xaa y15))), (1, (.agg (Xaa y7)))]) rfl rfl rfl rfl rfl (by simp only [Xax, List.map_cons, List.map_nil, Xap, Xaq, Xai, Xad, Xal]) (fc ⟨rfl, rfl⟩ (fc ⟨rfl, rfl⟩ (fun p hp => nomatch hp))) rfl)) rfl rfl rfl rfl ?_
 have hv16 : Xa8 Xac (some [y15, y7]) _ := ⟨.full, rfl⟩
 obtain ⟨y17, hy17, h⟩ := Xaf h
 refine WK.step (v := (.agg (Xaa y17))) rfl (pz (fo rfl (Xaw hv16.frz rfl)) rfl (show List.map PV.strip [(.int .u8 48), (.lst (List.map Xac [y15, y7]) .full)] = [(.int .u8 48), (Xar Xac (some [y15, y7]))] from (by simp only [XaI, hv16.strip, XaX, Xa3, eI, eB, eS, List.map_cons, List.map_nil, Xal])) cq (s19 _ hy17 (show List.map PV.strip [(.int .u8 48), (Xar Xac (some [y15, y7]))] = [(.int .u8 48), (Xar Xac (some [y15, y7]))] from (by simp only [XaX, XdD, XaI, XbS, Xa3, eI, eB, eS, List.map_cons, List.map_nil, Xal])) []) cq (by simp only [Xax, List.map_cons, List.map_nil, Xap, Xaq, Xai, Xad, Xal])) rfl rfl rfl (Xfz (fc rfl (fc hv16.notRow (fun p hp => nomatch hp)))) ?_
 have Hh85 := H
 refine WK.alloc' (ti := XbA) rfl rfl rfl rfl H ?_
 intro i18 S hi18 H
 refine ⟨(Xah (ld (H.get 1 rfl) rfl) (Xah (ld (H.get 2 rfl) rfl) Xa9)), ?_⟩
 refine WK.nil <| Ws 0 H hi18 rfl ?_
 intro S H
 refine A_ <| C_ <| I_ <| B_ <| Wg H 0 rfl ?_
 obtain ⟨y19, hy19, h⟩ := Xaf h
 refine Cl (.int .i64 y19) [(.agg (Xaa y17))] rfl rfl (sv (s23 _ hy19)) <| us 1 rfl <| A_ ?_
 rcases Xa1 h with ⟨hc20, h⟩ | ⟨hc20, h⟩
 refine F_ rfl hc20 <| B_ <| us 2 rfl <| A_ <| Q_ <| H_ ?_
 cases oi h
 refine Z_ (vs := [(.str []), (.int .i64 13)]) (T_ rfl (T_ rfl Xas)) (L_ rfl (L_ rfl rfl)) ?_
 exact rfl
 refine G_ rfl hc20 <| M_ <| C_ <| B_ <| Wg H 0 rfl ?_
 obtain ⟨y21, hy21, h⟩ := Xaf h
 refine Cl (.tup [(.str y21.1), (.int .i64 y21.2)]) [(.agg (Xaa y17))] rfl rfl (sv (s24 _ hy21)) <| us 4 rfl <| A_ <| Q_ ?_
 cases oi h
 refine Z_ (vs := [(.str y21.1), (.int .i64 y21.2)]) (T_ rfl (T_ rfl Xas)) (L_ rfl (L_ rfl rfl)) ?_
 exact rfl
end Go.Proofs.YtbinlabnilidiaaGreatDoor.M
