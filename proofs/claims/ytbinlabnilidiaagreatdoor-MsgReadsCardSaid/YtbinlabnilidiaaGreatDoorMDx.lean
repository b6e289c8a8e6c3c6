/- Part of the proof: the runs of functions on the abstract machine. -/
import Derived.Test.YtbinlabnilidiaaGreatDoorPamM4
import Derived.Test.YtbinlabnilidiaaGreatDoorFns
import Derived.Test.YtbinlabnilidiaaGreatDoorMDe
import Derived.Test.YtbinlabnilidiaaGreatDoorMDd
import Derived.Test.YtbinlabnilidiaaGreatDoorMDd1
namespace Go.Proofs.YtbinlabnilidiaaGreatDoor.M
open Go Go.Pam Go.RowKit Go.WideShapes
set_option maxRecDepth 8000
set_option maxHeartbeats 1000000
set_option linter.unusedVariables false
set_option linter.unusedSimpArgs false
def Xem (k : Nat) (a0 : Str) (a2 : Int) : Nat → Int → Int → Option (Int × Int)
 | 0, _, _ => none
 | n + 1, x3, x4 =>
  if decide (x4 < a2) then
  (Str.at? a0 (ad .i64 2 x4)).bind fun c5 =>
  Xem k a0 a2 n (ad .i64 (ml .i64 256 x3) (cv .i64 c5)) (ad .i64 x4 1)
  else
  some (x3, x4)
def XoF (k : Nat) (a0 : Str) : Option (Int × Int × Int) :=
 if (Str.len a0) == 0 then
 some (0, 0, 10)
 else
 (Str.at? a0 0).bind fun c2 =>
 if (Xej .u8 c2 31) == 31 then
 some (0, 0, 14)
 else
 if (Str.len a0) == 1 then
 some (0, 0, 10)
 else
 (Str.at? a0 1).bind fun c5 =>
 if decide (c5 < 128) then
 (Str.at? a0 1).bind fun c8 =>
 some (2, cv .i64 c8, 0)
 else
 (Str.at? a0 1).bind fun c9 =>
 if (decide ((sb .i64 (cv .i64 c9) 128) < 1)) || (decide ((sb .i64 (cv .i64 c9) 128) > 4)) then
 some (0, 0, 11)
 else
 if decide ((Str.len a0) < (ad .i64 2 (sb .i64 (cv .i64 c9) 128))) then
 some (0, 0, 10)
 else
 (Xem k a0 (sb .i64 (cv .i64 c9) 128) k 0 0).bind fun y1 =>
 if decide (y1.1 > 4000) then
 some (0, 0, 13)
 else
 some (ad .i64 2 (sb .i64 (cv .i64 c9) 128), y1.1, 0)
theorem Xom {k : Nat} {a1 : Str} {a2 : Int} {S0 : List SObj} {R : List Nat} {K : KX}  {o : (Int × Int)}
  (hbrk : EK [(5, (.int .i64 a2)), (6, (.int .i64 o.1))] S0 R [] [] [] (K (.exit 0))) :
  ∀ {n : Nat} {x3 : Int} {x4 : Int}, Xem k a1 a2 n x3 x4 = some o → ∀ {σ : Nat → PV} {S : List SObj}, Xa2 [(0, (.str a1)), (5, (.int .i64 a2)), (6, (.int .i64 x3)), (7, (.int .i64 x4))] σ → Hp S0 R S [] [] [] → WC env ⟨57, S0.length⟩ (.loop Xoa) σ S false K := by
 intro n
 induction n with
 | zero => intro _ _ h; cases h
 | succ n ih =>
  intro x3 x4 h σ S  hk H
  rw [Xem] at h
  refine b_ <| X_ hk <| I_ <| B_ <| us 3 rfl <| A_ ?_
  rcases Xa1 h with ⟨hc5, h⟩ | ⟨hc5, h⟩
  refine F_ rfl hc5 <| M_ <| C_ <| I_ <| R_ <| S_ <| us 5 rfl ?_
  obtain ⟨c6, hc6, h⟩ := Xaf h
  refine w (.int .u8 c6) rfl (nz rfl (XaU rfl rfl rfl hc6)) <| us 3 rfl <| A_ <| V_ <| C_ <| S_ <| us 3 rfl <| A_ <| C_ ?_
  exact ih h  kn (hs H)
  refine G_ rfl hc5 <| Y_ <| K_ <| K_ ?_
  cases oi h
  exact hbrk  kn (hs H)
theorem s104 : ∀ k : Nat, ∀ {a0 : Str} {r : Int × Int × Int}, XoF k a0 = some r → Q 104 [(.str a0)] (.tup [(.int .i64 r.1), (.int .i64 r.2.1), (.int .i64 r.2.2)]) := by
 intro k a0 r h
 unfold XoF at h
 refine Qg (pf := Xob) rfl rfl rfl fun H => ?_
 refine B_ <| us 3 rfl <| A_ <| I_ <| B_ <| us 3 rfl <| A_ ?_
 rcases Xa1 h with ⟨hc3, h⟩ | ⟨hc3, h⟩
 refine F_ rfl hc3 <| B_ <| us 3 rfl <| A_ <| Q_ <| H_ ?_
 cases oi h
 refine Z_ (vs := [(.int .i64 0), (.int .i64 0), (.int .i64 10)]) (T_ rfl (T_ rfl (T_ rfl Xas))) (L_ rfl (L_ rfl (L_ rfl rfl))) ?_
 exact rfl
 refine G_ rfl hc3 <| M_ <| C_ <| I_ <| B_ <| us 1 rfl ?_
 obtain ⟨c2, hc2, h⟩ := Xaf h
 refine w (.int .u8 c2) rfl (nz rfl (XaU rfl rfl rfl hc2)) <| us 2 rfl <| A_ ?_
 rcases Xa1 h with ⟨hc4, h⟩ | ⟨hc4, h⟩
 refine F_ rfl hc4 <| B_ <| us 3 rfl <| A_ <| Q_ <| H_ ?_
 cases oi h
 refine Z_ (vs := [(.int .i64 0), (.int .i64 0), (.int .i64 14)]) (T_ rfl (T_ rfl (T_ rfl Xas))) (L_ rfl (L_ rfl (L_ rfl rfl))) ?_
 exact rfl
 refine G_ rfl hc4 <| M_ <| C_ <| I_ <| B_ <| us 3 rfl <| A_ ?_
 rcases Xa1 h with ⟨hc6, h⟩ | ⟨hc6, h⟩
 refine F_ rfl hc6 <| B_ <| us 3 rfl <| A_ <| Q_ <| H_ ?_
 cases oi h
 refine Z_ (vs := [(.int .i64 0), (.int .i64 0), (.int .i64 10)]) (T_ rfl (T_ rfl (T_ rfl Xas))) (L_ rfl (L_ rfl (L_ rfl rfl))) ?_
 exact rfl
 refine G_ rfl hc6 <| M_ <| C_ <| I_ <| B_ <| us 1 rfl ?_
 obtain ⟨c5, hc5, h⟩ := Xaf h
 refine w (.int .u8 c5) rfl (nz rfl (XaU rfl rfl rfl hc5)) <| us 1 rfl <| A_ ?_
 rcases Xa1 h with ⟨hc7, h⟩ | ⟨hc7, h⟩
 refine F_ rfl hc7 <| I_ <| h_ <| wh _ rfl rfl ?_
 obtain ⟨c8, hc8, h⟩ := Xaf h
 refine k_ (v := .int .u8 c8) rfl (nz rfl (XaU rfl rfl rfl hc8)) rfl rfl <| wh _ rfl rfl <| wh _ rfl rfl <| f_ <| us 2 rfl <| A_ <| C_ <| Q_ <| H_ ?_
 cases oi h
 refine Z_ (vs := [(.int .i64 2), (.int .i64 (cv .i64 c8)), (.int .i64 0)]) (T_ rfl (T_ rfl (T_ rfl Xas))) (L_ rfl (L_ rfl (L_ rfl rfl))) ?_
 exact rfl
 refine G_ rfl hc7 <| M_ <| C_ <| B_ <| us 1 rfl ?_
 obtain ⟨c9, hc9, h⟩ := Xaf h
 refine w (.int .u8 c9) rfl (nz rfl (XaU rfl rfl rfl hc9)) <| us 3 rfl <| A_ <| I_ <| B_ <| us 1 rfl <| w (.bool (decide ((sb .i64 (cv .i64 c9) 128) < 1))) rfl rfl <| w (.bool (decide ((sb .i64 (cv .i64 c9) 128) < 1))) rfl rfl ?_
 refine O_ 3 (SH H [(0, (.str a0)), (5, (.int .i64 (sb .i64 (cv .i64 c9) 128))), (33, (.bool ((decide ((sb .i64 (cv .i64 c9) 128) < 1)) || (decide ((sb .i64 (cv .i64 c9) 128) > 4)))))]) ?_ ?_
 revert H
 cases hc10 : (decide ((sb .i64 (cv .i64 c9) 128) < 1))
 intro H
 refine us 3 rfl <| A_ ?_
 exact kf H
 intro H
 refine us 3 rfl <| A_ ?_
 exact kf H
 rintro σ S e ⟨hk, H, rfl⟩
 refine E_ hk <| A_ ?_
 rcases Xa1 h with ⟨hc11, h⟩ | ⟨hc11, h⟩
 refine F_ rfl hc11 <| B_ <| us 3 rfl <| A_ <| Q_ <| H_ ?_
 cases oi h
 refine Z_ (vs := [(.int .i64 0), (.int .i64 0), (.int .i64 11)]) (T_ rfl (T_ rfl (T_ rfl Xas))) (L_ rfl (L_ rfl (L_ rfl rfl))) ?_
 exact rfl
 refine G_ rfl hc11 <| M_ <| C_ <| I_ <| B_ <| us 5 rfl <| A_ ?_
 rcases Xa1 h with ⟨hc12, h⟩ | ⟨hc12, h⟩
 refine F_ rfl hc12 <| B_ <| us 3 rfl <| A_ <| Q_ <| H_ ?_
 cases oi h
 refine Z_ (vs := [(.int .i64 0), (.int .i64 0), (.int .i64 10)]) (T_ rfl (T_ rfl (T_ rfl Xas))) (L_ rfl (L_ rfl (L_ rfl rfl))) ?_
 exact rfl
 refine G_ rfl hc12 <| M_ <| C_ <| B_ <| us 1 rfl <| A_ <| I_ <| B_ <| us 1 rfl <| A_ ?_
 obtain ⟨y13, hy13, hOy13⟩ := Xaf h
 refine R_ ?_
 refine Xom ?_ hy13  kn (hs H)
 intro σ S  hk H; replace h := hOy13
 refine J_ hk <| U_ <| C_ <| I_ <| B_ <| us 2 rfl <| A_ ?_
 rcases Xa1 h with ⟨hc14, h⟩ | ⟨hc14, h⟩
 refine F_ rfl hc14 <| B_ <| us 3 rfl <| A_ <| Q_ <| H_ ?_
 cases oi h
 refine Z_ (vs := [(.int .i64 0), (.int .i64 0), (.int .i64 13)]) (T_ rfl (T_ rfl (T_ rfl Xas))) (L_ rfl (L_ rfl (L_ rfl rfl))) ?_
 exact rfl
 refine G_ rfl hc14 <| M_ <| C_ <| B_ <| us 6 rfl <| A_ <| Q_ ?_
 cases oi h
 refine Z_ (vs := [(.int .i64 (ad .i64 2 (sb .i64 (cv .i64 c9) 128))), (.int .i64 y13.1), (.int .i64 0)]) (T_ rfl (T_ rfl (T_ rfl Xas))) (L_ rfl (L_ rfl (L_ rfl rfl))) ?_
 exact rfl
def Xfn (rc0 : Str → Int → Int → Int → Option (Xab × Int × Int × Int)) (k : Nat) (a2 : Str) (a3 : Int) (a4 : Int) (a5 : Int) (a6 : Int) (a7 : Xab) : Nat → Int → Xab → Option (Out (Xab × Int × Int × Int) (Int × Xab))
 | 0, _, _ => none
 | n + 1, x8, b9 =>
  if decide (x8 < (ad .i64 (ad .i64 a3 a5) a6)) then
  (rc0 a2 x8 (ad .i64 (ad .i64 a3 a5) a6) (ad .i64 a4 1)).bind fun y10 =>
  if y10.2.2.2 != 0 then
  some (Out.ret ((Xab.mk 0 [] none), 0, y10.2.2.1, y10.2.2.2))
  else
  (Sl.app? 48 b9.Kids (Sl.l (some [y10.1]))).bind fun z11 =>
  Xfn rc0 k a2 a3 a4 a5 a6 a7 n (ad .i64 x8 y10.2.1) (Xab.mk b9.Tag b9.Body z11)
  else
  some (Out.brk (x8, b9))
def F78 : Nat → Str → Int → Int → Int → Option (Xab × Int × Int × Int)
 | 0, _, _, _, _ => none
 | k + 1, a0, a1, a2, a3 =>
  if decide (a3 > 20) then
  some ((Xab.mk 0 [] none), 0, a1, 12)
  else
  (Str.sub? a0 a1 a2).bind fun z3 =>
  (XoF k z3).bind fun y4 =>
  (if (y4.2.2 == 0) && (decide ((ad .i64 (ad .i64 a1 y4.1) y4.2.1) > a2)) then
  some 10
  else
  some y4.2.2).bind fun y8 =>
  (if (y8 == 10) && (decide (a3 > 1)) then
  some 11
  else
  some y8).bind fun y5 =>
  if y5 != 0 then
  some ((Xab.mk 0 [] none), 0, a1, y5)
  else
  (Str.at? a0 a1).bind fun c6 =>
  (Str.at? a0 a1).bind fun c7 =>
  if (Xej .u8 c7 32) == 0 then
  (Str.sub? a0 (ad .i64 a1 y4.1) (ad .i64 (ad .i64 a1 y4.1) y4.2.1)).bind fun z9 =>
  some ((Xab.mk c6 z9 none), ad .i64 y4.1 y4.2.1, 0, 0)
  else
  (Xfn (F78 k) k a0 a1 a3 y4.1 y4.2.1 (Xab.mk 0 [] none) k (ad .i64 a1 y4.1) (Xab.mk c6 [] none)).bind fun y10 =>
  match y10 with
  | .ret y10r => some (y10r.1, y10r.2.1, y10r.2.2.1, y10r.2.2.2)
  | .brk y10b =>
  some (y10b.2, ad .i64 y4.1 y4.2.1, 0, 0)
theorem XsV {rc0 : Str → Int → Int → Int → Option (Xab × Int × Int × Int)} (hrc0 : ∀ {a0 : Str} {a1 : Int} {a2 : Int} {a3 : Int} {r : Xab × Int × Int × Int}, rc0 a0 a1 a2 a3 = some r → Q 78 [(.str a0), (.int .i64 a1), (.int .i64 a2), (.int .i64 a3)] (.tup [(.agg (Xaa r.1)), (.int .i64 r.2.1), (.int .i64 r.2.2.1), (.int .i64 r.2.2.2)])) {k : Nat} {a4 : Str} {a5 : Int} {a6 : Int} {a7 : Int} {a8 : Int} {a9 : Xab} {S0 : List SObj} {R : List Nat} {K : KX} {i10 : Nat} {i1 : Nat} (hi10 : S0.length ≤ i10) (hi1 : S0.length ≤ i1)  {o : Out (Xab × Int × Int × Int) (Int × Xab)}
  (hret : ∀ r : Xab × Int × Int × Int, o = .ret r → ∀ {σ' : Nat → PV} {S' : List SObj} (v11 : PV) (_ : Xa8 Xac r.1.Kids v11), Xa2 [(8, (.ptr i1 0)), (9, (.int .i64 r.2.1)), (10, (.int .i64 r.2.2.1)), (11, (.int .i64 r.2.2.2))] σ' → Hp S0 R S' [(i1, .cells (Xau r.1 v11))] [] [] → K .ret σ' S' false)
  (hbrk : ∀ y : Int × Xab, o = .brk y → ∀ {σ' : Nat → PV} {S' : List SObj}, ∀ (v12 : PV) (_ : Xa8 Xac y.2.Kids v12), Xa2 [(8, (.ptr i1 0)), (12, (.int .i64 a7)), (13, (.int .i64 a8)), (15, (.ptr i10 0))] σ' → Hp S0 R S' [(i10, .cells (Xau y.2 v12)), (i1, .cells (Xau a9 .nils))] [(v12, 3)] [] → K (.exit 0) σ' S' false) :
  ∀ {n : Nat} {x13 : Int} {b14 : Xab}, Xfn rc0 k a4 a5 a6 a7 a8 a9 n x13 b14 = some o → ∀ {σ : Nat → PV} {S : List SObj}, ∀ (v15 : PV) (_ : Xa8 Xac b14.Kids v15), Xa2 [(0, (.str a4)), (1, (.int .i64 a5)), (3, (.int .i64 a6)), (8, (.ptr i1 0)), (12, (.int .i64 a7)), (13, (.int .i64 a8)), (15, (.ptr i10 0)), (16, (.int .i64 x13))] σ → Hp S0 R S [(i10, .cells (Xau b14 v15)), (i1, .cells (Xau a9 .nils))] [(v15, 3)] [] → WC env ⟨123, S0.length⟩ (.loop Xse) σ S false K := by
 intro n
 induction n with
 | zero => intro _ _ h; cases h
 | succ n ih =>
  intro x13 b14 h σ S v15 hv15 hk H
  rw [Xfn] at h
  refine b_ <| X_ hk <| I_ <| B_ <| us 7 rfl <| A_ ?_
  rcases Xa1 h with ⟨hc16, h⟩ | ⟨hc16, h⟩
  refine F_ rfl hc16 <| M_ <| C_ <| R_ <| B_ <| us 9 rfl ?_
  obtain ⟨y17, hy17, h⟩ := Xaf h
  refine Cl (.tup [(.agg (Xaa y17.1)), (.int .i64 y17.2.1), (.int .i64 y17.2.2.1), (.int .i64 y17.2.2.2)]) [(.str a4), (.int .i64 x13), (.int .i64 (ad .i64 (ad .i64 a5 a7) a8)), (.int .i64 (ad .i64 a6 1))] rfl rfl (hrc0 hy17 rfl) <| us 5 rfl <| Wa (ti := XbA) H rfl ?_
  intro i18 S hi18 H
  refine Ws 0 H hi18 rfl ?_
  intro S H
  refine us 3 rfl <| A_ <| I_ <| B_ <| us 2 rfl <| A_ ?_
  rcases Xa1 h with ⟨hc19, h⟩ | ⟨hc19, h⟩
  refine F_ rfl hc19 <| B_ <| w (.agg [(.int .u8 0), (.str []), .nils]) rfl (nz rfl (XaH (ti := XbA) rfl rfl rfl rfl rfl rfl)) <| us 2 rfl <| Ws 2 H hi1 rfl ?_
  intro S H
  refine us 3 rfl <| A_ <| Q_ <| H_ <| P_ <| H_ ?_
  have h := oi h; subst h
  exact hret _ rfl .nils ((Xam _)) kn (H.sub (.cons _ (.cons _ (.cons_cons _ .slnil))) (.cons _ .slnil) .slnil)
  refine G_ rfl hc19 <| M_ <| C_ <| B_ <| us 1 rfl <| Wg H 1 rfl <| Wg H 0 rfl <| WS rfl (nz rfl (Xaj (ys := [y17.1]) (f := Xac) (parts := [(0, (.agg (Xaa y17.1)))]) rfl rfl rfl rfl rfl (by simp only [Xax, List.map_cons, List.map_nil, Xap, Xaq, Xai, Xad, Xal]) (fc ⟨rfl, rfl⟩ (fun p hp => nomatch hp)) rfl)) ?_
  have hv20 : Xa8 Xac (some [y17.1]) _ := ⟨.full, rfl⟩
  obtain ⟨z21, hz21, h⟩ := Xaf h
  refine WO.ex rfl (nzx (Xaw hv20.frz rfl) (Xb0 (f := Xac) (ei := XbA) H 0 rfl rfl hv15 rfl hv20 rfl rfl rfl rfl (fun a => (Xa4 a).2.1) hz21)) ?_
  rintro v22 S ⟨hv22, H⟩
  refine us 1 rfl <| WO.store 1 rfl (Xaw hv22.frz rfl) H rfl rfl rfl rfl hv22.one.1 hv22.one.2 rfl (D_ rfl) rfl (XeQ hi10) ?_
  intro S H
  refine A_ <| S_ <| us 4 rfl <| A_ <| V_ <| C_ ?_
  exact ih h v22 (hv22) kn (H.sub (.cons _ (.cons_cons _ (.cons_cons _ .slnil))) (.cons_cons _ .slnil) .slnil)
  refine G_ rfl hc16 <| Y_ <| K_ <| K_ ?_
  have h := oi h; subst h
  exact hbrk _ rfl v15 (hv15) kn (hs H)
theorem s78 : ∀ k : Nat, ∀ {a0 : Str} {a1 : Int} {a2 : Int} {a3 : Int} {r : Xab × Int × Int × Int}, F78 k a0 a1 a2 a3 = some r → Q 78 [(.str a0), (.int .i64 a1), (.int .i64 a2), (.int .i64 a3)] (.tup [(.agg (Xaa r.1)), (.int .i64 r.2.1), (.int .i64 r.2.2.1), (.int .i64 r.2.2.2)]) := by
 intro k
 induction k with
 | zero => intro _ _ _ _ r h; cases h
 | succ k ih =>
  intro a0 a1 a2 a3 r h vs ha S
  rw [F78] at h
  refine e_ (pf := XtU) rfl rfl ha (D_ rfl) rfl cq ?_
  refine o_ (pf := XtU) rfl ?_
  have H := g_ []
  refine B_ <| Wa (ti := XbA) H rfl ?_
  intro i1 S hi1 H
  refine us 3 rfl <| A_ <| I_ <| B_ <| us 2 rfl <| A_ ?_
  rcases Xa1 h with ⟨hc6, h⟩ | ⟨hc6, h⟩
  refine F_ rfl hc6 <| B_ <| w (.agg [(.int .u8 0), (.str []), .nils]) rfl (nz rfl (XaH (ti := XbA) rfl rfl rfl rfl rfl rfl)) <| us 1 rfl <| Ws 0 H hi1 rfl ?_
  intro S H
  refine us 3 rfl <| A_ <| Q_ <| H_ ?_
  cases oi h
  refine Z_ (vs := [(.agg [(.int .u8 0), (.str []), .nils]), (.int .i64 0), (.int .i64 a1), (.int .i64 12)]) (Xa0 rfl (H.get 0 rfl) rfl (T_ rfl (T_ rfl (T_ rfl Xas)))) (L_ rfl (L_ rfl (L_ rfl (L_ rfl rfl)))) ?_
  exact (by simp only [Xa7, List.map_cons, List.map_nil, Xal, Xb1, Xap, Xaq, Xbp, Xbc, Xad, Xb8, Xaa])
  refine G_ rfl hc6 <| M_ <| C_ <| B_ <| us 3 rfl ?_
  obtain ⟨z3, hz3, h⟩ := Xaf h
  refine w (.str z3) rfl (nz rfl (XcH rfl rfl rfl rfl hz3)) ?_
  obtain ⟨y4, hy4, h⟩ := Xaf h
  refine Cl (.tup [(.int .i64 y4.1), (.int .i64 y4.2.1), (.int .i64 y4.2.2)]) [(.str z3)] rfl rfl (s104 _ hy4 rfl) <| us 7 rfl <| A_ <| I_ <| B_ <| us 1 rfl <| w (.bool (y4.2.2 == 0)) rfl rfl <| w (.bool (y4.2.2 == 0)) rfl rfl ?_
  refine O_ 8 (SH H [(0, (.str a0)), (1, (.int .i64 a1)), (3, (.int .i64 a3)), (8, (.ptr i1 0)), (12, (.int .i64 y4.1)), (13, (.int .i64 y4.2.1)), (14, (.int .i64 y4.2.2)), (44, (.bool ((y4.2.2 == 0) && (decide ((ad .i64 (ad .i64 a1 y4.1) y4.2.1) > a2)))))]) ?_ ?_
  revert H
  cases hc5 : (y4.2.2 == 0)
  intro H
  refine us 8 rfl <| A_ ?_
  exact kf H
  intro H
  refine us 8 rfl <| A_ ?_
  exact kf H
  rintro σ S e ⟨hk, H, rfl⟩
  refine E_ hk <| A_ ?_
  obtain ⟨y8, hy8, hOy8⟩ := Xaf h
  refine a_ (SJ [(0, (.str a0)), (1, (.int .i64 a1)), (3, (.int .i64 a3)), (8, (.ptr i1 0)), (12, (.int .i64 y4.1)), (13, (.int .i64 y4.2.1)), (14, (.int .i64 y8))] [] [] [(i1, .cells [(.int .u8 0), (.str []), .nils])] [] [] false) ?_ ?_
  replace h := hy8
  rcases Xa1 h with ⟨hc9, h⟩ | ⟨hc9, h⟩
  refine F_ rfl hc9 <| S_ <| us 1 rfl <| A_ <| C_ ?_
  cases oi h
  exact kh H
  refine G_ rfl hc9 <| M_ <| C_ ?_
  cases oi h
  exact kh H
  rintro σ S e ⟨hk, H, rfl⟩
  replace h := hOy8
  refine J_ hk <| C_ <| I_ <| B_ <| us 1 rfl <| w (.bool (y8 == 10)) rfl rfl <| w (.bool (y8 == 10)) rfl rfl ?_
  refine O_ 3 (SH H [(0, (.str a0)), (1, (.int .i64 a1)), (3, (.int .i64 a3)), (8, (.ptr i1 0)), (12, (.int .i64 y4.1)), (13, (.int .i64 y4.2.1)), (14, (.int .i64 y8)), (50, (.bool ((y8 == 10) && (decide (a3 > 1)))))]) ?_ ?_
  revert H
  cases hc7 : (y8 == 10)
  intro H
  refine us 3 rfl <| A_ ?_
  exact kf H
  intro H
  refine us 3 rfl <| A_ ?_
  exact kf H
  rintro σ S e ⟨hk, H, rfl⟩
  refine E_ hk <| A_ ?_
  obtain ⟨y10, hy10, hOy10⟩ := Xaf h
  refine a_ (SJ [(0, (.str a0)), (1, (.int .i64 a1)), (3, (.int .i64 a3)), (8, (.ptr i1 0)), (12, (.int .i64 y4.1)), (13, (.int .i64 y4.2.1)), (14, (.int .i64 y10))] [] [] [(i1, .cells [(.int .u8 0), (.str []), .nils])] [] [] false) ?_ ?_
  replace h := hy10
  rcases Xa1 h with ⟨hc11, h⟩ | ⟨hc11, h⟩
  refine F_ rfl hc11 <| S_ <| us 1 rfl <| A_ <| C_ ?_
  cases oi h
  exact kh H
  refine G_ rfl hc11 <| M_ <| C_ ?_
  cases oi h
  exact kh H
  rintro σ S e ⟨hk, H, rfl⟩
  replace h := hOy10
  refine J_ hk <| C_ <| I_ <| B_ <| us 2 rfl <| A_ ?_
  rcases Xa1 h with ⟨hc12, h⟩ | ⟨hc12, h⟩
  refine F_ rfl hc12 <| B_ <| w (.agg [(.int .u8 0), (.str []), .nils]) rfl (nz rfl (XaH (ti := XbA) rfl rfl rfl rfl rfl rfl)) <| us 2 rfl <| Ws 0 H hi1 rfl ?_
  intro S H
  refine us 3 rfl <| A_ <| Q_ <| H_ ?_
  cases oi h
  refine Z_ (vs := [(.agg [(.int .u8 0), (.str []), .nils]), (.int .i64 0), (.int .i64 a1), (.int .i64 y10)]) (Xa0 rfl (H.get 0 rfl) rfl (T_ rfl (T_ rfl (T_ rfl Xas)))) (L_ rfl (L_ rfl (L_ rfl (L_ rfl rfl)))) ?_
  exact (by simp only [Xa7, List.map_cons, List.map_nil, Xal, Xb1, Xap, Xaq, Xbp, Xbc, Xad, Xb8, Xaa])
  refine G_ rfl hc12 <| M_ <| C_ <| B_ <| us 2 rfl ?_
  obtain ⟨c13, hc13, h⟩ := Xaf h
  refine w (.int .u8 c13) rfl (nz rfl (XaU rfl rfl rfl hc13)) <| w (.agg [(.int .u8 c13), (.str []), .nils]) rfl (nz rfl (XaH (ti := XbA) rfl rfl rfl rfl rfl (Xav rfl rfl rfl rfl (D_ rfl) rfl rfl))) <| Wa (ti := XbA) H rfl ?_
  intro i14 S hi14 H
  refine Ws 0 H hi14 rfl ?_
  intro S H
  refine A_ <| I_ <| B_ <| us 2 rfl ?_
  obtain ⟨c15, hc15, h⟩ := Xaf h
  refine w (.int .u8 c15) rfl (nz rfl (XaU rfl rfl rfl hc15)) <| us 2 rfl <| A_ ?_
  rcases Xa1 h with ⟨hc16, h⟩ | ⟨hc16, h⟩
  refine F_ rfl hc16 <| B_ <| us 9 rfl ?_
  obtain ⟨z17, hz17, h⟩ := Xaf h
  refine w (.str z17) rfl (nz rfl (XcH rfl rfl rfl rfl hz17)) <| us 1 rfl <| Ws 0 H hi14 rfl ?_
  intro S H
  refine A_ <| B_ <| Wg H 0 rfl <| us 3 rfl <| Ws 1 H hi1 rfl ?_
  intro S H
  refine us 3 rfl <| A_ <| Q_ <| H_ ?_
  cases oi h
  refine Z_ (vs := [(.agg [(.int .u8 c13), (.str z17), .nils]), (.int .i64 (ad .i64 y4.1 y4.2.1)), (.int .i64 0), (.int .i64 0)]) (Xa0 rfl (H.get 1 rfl) rfl (T_ rfl (T_ rfl (T_ rfl Xas)))) (L_ rfl (L_ rfl (L_ rfl (L_ rfl rfl)))) ?_
  exact (by simp only [Xa7, List.map_cons, List.map_nil, Xal, Xb1, Xap, Xaq, Xbp, Xbc, Xad, Xb8, Xaa])
  refine G_ rfl hc16 <| M_ <| C_ <| B_ <| us 4 rfl <| A_ <| I_ ?_
  obtain ⟨y18, hy18, hOy18⟩ := Xaf h
  refine R_ ?_
  have H := H.addNil 3
  refine XsV ih hi14 hi1 ?_ ?_ hy18 .nils ((Xam _)) kn (hs H)
  intro y18r he σ S v19 hv19 hk H; subst he; replace h := hOy18; dsimp only at h
  refine J_ hk <| P_ <| H_ ?_
  cases oi h
  refine Z_ (vs := [(.agg (Xau y18r.1 v19)), (.int .i64 y18r.2.1), (.int .i64 y18r.2.2.1), (.int .i64 y18r.2.2.2)]) (Xa0 rfl (H.get 0 rfl) rfl (T_ rfl (T_ rfl (T_ rfl Xas)))) (L_ rfl (L_ rfl (L_ rfl (L_ rfl rfl)))) ?_
  exact (by simp only [Xa7, List.map_cons, List.map_nil, Xal, Xb1, Xap, Xaq, hv19.strip1, Xad, Xb8, Xaa])
  intro y18b he σ S v20 hv20 hk H; subst he; replace h := hOy18; dsimp only at h
  refine J_ hk <| U_ <| C_ <| B_ <| Wg H 0 rfl <| us 3 rfl <| Ws 1 H hi1 rfl ?_
  intro S H
  refine us 3 rfl <| A_ <| Q_ ?_
  cases oi h
  refine Z_ (vs := [(.agg (Xau y18b.2 v20)), (.int .i64 (ad .i64 y4.1 y4.2.1)), (.int .i64 0), (.int .i64 0)]) (Xa0 rfl (H.get 1 rfl) rfl (T_ rfl (T_ rfl (T_ rfl Xas)))) (L_ rfl (L_ rfl (L_ rfl (L_ rfl rfl)))) ?_
  exact (by simp only [Xa7, List.map_cons, List.map_nil, Xal, Xb1, Xap, Xaq, hv20.strip1, Xad, Xb8, Xaa])
def F47 (k : Nat) (a0 : Str) : Option (Xab × Int × Int × Int) :=
 (F78 k a0 0 (Str.len a0) 1).bind fun y2 =>
 some (y2.1, y2.2.1, y2.2.2.1, y2.2.2.2)
theorem s47 : ∀ k : Nat, ∀ {a0 : Str} {r : Xab × Int × Int × Int}, F47 k a0 = some r → Q 47 [(.str a0)] (.tup [(.agg (Xaa r.1)), (.int .i64 r.2.1), (.int .i64 r.2.2.1), (.int .i64 r.2.2.2)]) := by
 intro k a0 r h vs ha S
 unfold F47 at h
 refine e_ (pf := XtV) rfl rfl ha (D_ rfl) rfl cq ?_
 refine o_ (pf := XtV) rfl ?_
 have H := g_ []
 refine B_ <| Wa (ti := XbA) H rfl ?_
 intro i1 S hi1 H
 refine us 3 rfl <| A_ <| B_ <| us 3 rfl ?_
 obtain ⟨y2, hy2, h⟩ := Xaf h
 refine Cl (.tup [(.agg (Xaa y2.1)), (.int .i64 y2.2.1), (.int .i64 y2.2.2.1), (.int .i64 y2.2.2.2)]) [(.str a0), (.int .i64 0), (.int .i64 (Str.len a0)), (.int .i64 1)] rfl rfl (s78 _ hy2 rfl) <| us 4 rfl <| Ws 0 H hi1 rfl ?_
 intro S H
 refine us 3 rfl <| A_ <| Q_ ?_
 cases oi h
 refine Z_ (vs := [(.agg (Xaa y2.1)), (.int .i64 y2.2.1), (.int .i64 y2.2.2.1), (.int .i64 y2.2.2.2)]) (Xa0 rfl (H.get 0 rfl) rfl (T_ rfl (T_ rfl (T_ rfl Xas)))) (L_ rfl (L_ rfl (L_ rfl (L_ rfl rfl)))) ?_
 exact (by simp only [Xa7, List.map_cons, List.map_nil, Xal, Xb1, Xap, Xaq, Xai, Xad, Xb8, Xaa])
end Go.Proofs.YtbinlabnilidiaaGreatDoor.M
