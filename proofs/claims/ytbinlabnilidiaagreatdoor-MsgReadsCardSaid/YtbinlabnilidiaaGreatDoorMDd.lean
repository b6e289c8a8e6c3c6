/- Part of the proof: the runs of functions on the abstract machine. -/
import Derived.Test.YtbinlabnilidiaaGreatDoorPamM4
import Derived.Test.YtbinlabnilidiaaGreatDoorFns
import Derived.Test.YtbinlabnilidiaaGreatDoorMDe
import Derived.Test.YtbinlabnilidiaaGreatDoorMDc
import Derived.Test.YtbinlabnilidiaaGreatDoorMDc1
import Derived.Test.YtbinlabnilidiaaGreatDoorMDr
import Derived.Test.YtbinlabnilidiaaGreatDoorMDr1
import Derived.Test.YtbinlabnilidiaaGreatDoorMDw
namespace Go.Proofs.YtbinlabnilidiaaGreatDoor.M
open Go Go.Pam Go.RowKit Go.WideShapes
set_option maxRecDepth 8000
set_option linter.unusedVariables false
set_option linter.unusedSimpArgs false
def Xds (k : Nat) (a0 : Int) (a1 : Sl Int) (a2 : Int) : Nat → Int → Int → Option (Int × Int)
 | 0, _, _ => none
 | n + 1, x3, x4 =>
  if decide (x4 < a2) then
  (Sl.at? a1 x4).bind fun y5 =>
  (Xlm .i64 x3 8).bind fun z6 =>
  Xds k a0 a1 a2 n (bOr .i64 z6 (cv .i64 y5)) (ad .i64 x4 1)
  else
  some (x3, x4)
def XoE (k : Nat) (a0 : Str) : Option (Int × Int × Int) :=
 if a0 == [] then
 some (0, 0, 10)
 else
 (Str.at? a0 0).bind fun c2 =>
 if (Xej .u8 c2 31) == 31 then
 some (0, 0, 14)
 else
 if (Str.len a0) == 1 then
 some (0, 0, 10)
 else
 (Str.at? a0 1).bind fun c5 =>
 (if ((cv .i64 c5) == 128) || (decide ((cv .i64 c5) > 132)) then
 some (Out.ret (0, 0, 11))
 else
 if decide ((cv .i64 c5) > 128) then
 if decide ((Str.len a0) < (ad .i64 2 (sb .i64 (cv .i64 c5) 128))) then
 some (Out.ret (0, 0, 10))
 else
 (Str.sub? a0 2 (ad .i64 2 (sb .i64 (cv .i64 c5) 128))).bind fun z1 =>
 (Xds k (sb .i64 (cv .i64 c5) 128) (Str.bytes z1) (Sl.len (Str.bytes z1)) k 0 0).bind fun y3 =>
 some (Out.brk (y3.1, sb .i64 (cv .i64 c5) 128))
 else
 some (Out.brk (cv .i64 c5, 0))).bind fun y4 =>
 match y4 with
 | .ret r => some r
 | .brk y4b =>
 if decide (y4b.1 > 4000) then
 some (0, 0, 13)
 else
 some (ad .i64 2 y4b.2, y4b.1, 0)
theorem Xoh {k : Nat} {a1 : Int} {a2 : Sl Int} {a3 : Int} {S0 : List SObj} {R : List Nat} {K : KX} {v4 : PV} (hv4 : Xa8 (eI .u8) a2 v4)  {o : (Int × Int)}
  (hbrk : EK [(5, (.int .i64 o.1)), (6, (.int .i64 a1))] S0 R [] [] [] (K (.exit 4))) :
  ∀ {n : Nat} {x5 : Int} {x6 : Int}, Xds k a1 a2 a3 n x5 x6 = some o → ∀ {σ : Nat → PV} {S : List SObj}, Xa2 [(5, (.int .i64 x5)), (6, (.int .i64 a1)), (42, v4), (43, (.int .i64 a3)), (44, (.int .i64 x6))] σ → Hp S0 R S [] [] [] → WC env ⟨59, S0.length⟩ (.loop Xnx) σ S false K := by
 intro n
 induction n with
 | zero => intro _ _ h; cases h
 | succ n ih =>
  intro x5 x6 h σ S  hk H
  rw [Xds] at h
  refine b_ <| X_ hk <| B_ <| us 1 rfl <| A_ <| I_ ?_
  rcases Xa1 h with ⟨hc7, h⟩ | ⟨hc7, h⟩
  refine F_ rfl hc7 <| M_ <| C_ <| I_ <| R_ <| B_ ?_
  obtain ⟨y8, hy8, h⟩ := Xaf h
  refine w (.iptr [(.int .u8 y8)] 0) rfl (nz rfl (Xbv rfl hv4 rfl rfl rfl hy8 rfl rfl)) <| us 2 rfl <| A_ <| S_ <| us 1 rfl ?_
  obtain ⟨z9, hz9, h⟩ := Xaf h
  refine w (.int .i64 z9) rfl (nz rfl (Xk5 rfl rfl hz9)) <| us 4 rfl <| A_ <| V_ <| C_ <| S_ <| us 2 rfl <| A_ <| C_ ?_
  exact ih h  kn (hs H)
  refine G_ rfl hc7 <| Y_ <| K_ <| K_ ?_
  cases oi h
  exact hbrk  kn (hs H)
theorem s108 : ∀ k : Nat, ∀ {a0 : Str} {r : Int × Int × Int}, XoE k a0 = some r → Q 108 [(.str a0)] (.tup [(.int .i64 r.1), (.int .i64 r.2.1), (.int .i64 r.2.2)]) := by
 intro k a0 r h
 unfold XoE at h
 refine Qg (pf := Xny) rfl rfl rfl fun H => ?_
 refine B_ <| us 3 rfl <| A_ <| I_ <| B_ <| us 1 rfl <| w (.bool (a0 == [])) rfl rfl <| A_ ?_
 rcases Xa1 h with ⟨hc1, h⟩ | ⟨hc1, h⟩
 refine F_ rfl hc1 <| B_ <| us 3 rfl <| A_ <| Q_ <| H_ ?_
 cases oi h
 refine Z_ (vs := [(.int .i64 0), (.int .i64 0), (.int .i64 10)]) (T_ rfl (T_ rfl (T_ rfl Xas))) (L_ rfl (L_ rfl (L_ rfl rfl))) ?_
 exact rfl
 refine G_ rfl hc1 <| M_ <| C_ <| I_ <| B_ <| us 1 rfl ?_
 obtain ⟨c2, hc2, h⟩ := Xaf h
 refine w (.int .u8 c2) rfl (nz rfl (XaU rfl rfl rfl hc2)) <| us 2 rfl <| A_ ?_
 rcases Xa1 h with ⟨hc3, h⟩ | ⟨hc3, h⟩
 refine F_ rfl hc3 <| B_ <| us 3 rfl <| A_ <| Q_ <| H_ ?_
 cases oi h
 refine Z_ (vs := [(.int .i64 0), (.int .i64 0), (.int .i64 14)]) (T_ rfl (T_ rfl (T_ rfl Xas))) (L_ rfl (L_ rfl (L_ rfl rfl))) ?_
 exact rfl
 refine G_ rfl hc3 <| M_ <| C_ <| I_ <| B_ <| us 2 rfl <| w (.bool ((Str.len a0) == 1)) rfl rfl <| A_ ?_
 rcases Xa1 h with ⟨hc4, h⟩ | ⟨hc4, h⟩
 refine F_ rfl hc4 <| B_ <| us 3 rfl <| A_ <| Q_ <| H_ ?_
 cases oi h
 refine Z_ (vs := [(.int .i64 0), (.int .i64 0), (.int .i64 10)]) (T_ rfl (T_ rfl (T_ rfl Xas))) (L_ rfl (L_ rfl (L_ rfl rfl))) ?_
 exact rfl
 refine G_ rfl hc4 <| M_ <| C_ <| B_ <| us 1 rfl ?_
 obtain ⟨c5, hc5, h⟩ := Xaf h
 refine w (.int .u8 c5) rfl (nz rfl (XaU rfl rfl rfl hc5)) <| us 2 rfl <| A_ <| B_ <| us 1 rfl <| A_ <| I_ <| R_ <| I_ ?_
 obtain ⟨y6, hy6, hOy6⟩ := Xaf h
 refine a_ (fun σ' S' e' => ∃ y6b, y6 = .brk y6b ∧ Xa2 ([(5, (.int .i64 y6b.1)), (6, (.int .i64 y6b.2))]) σ' ∧ Hp [] [] S' [] [] [] ∧ e' = false) ?_ ?_
 replace h := hy6
 refine R_ <| I_ <| R_ <| I_ <| R_ <| I_ <| I_ <| B_ <| us 1 rfl <| w (.bool ((cv .i64 c5) == 128)) rfl rfl <| w (.bool ((cv .i64 c5) == 128)) rfl rfl ?_
 refine O_ 3 (SH H [(0, (.str a0)), (5, (.int .i64 (cv .i64 c5))), (6, (.int .i64 0)), (27, (.bool (((cv .i64 c5) == 128) || (decide ((cv .i64 c5) > 132)))))]) ?_ ?_
 revert H
 cases hc7 : ((cv .i64 c5) == 128)
 intro H
 refine us 3 rfl <| A_ ?_
 exact kf H
 intro H
 refine us 3 rfl <| A_ ?_
 exact kf H
 rintro σ S e ⟨hk, H, rfl⟩
 refine E_ hk <| us 1 rfl <| A_ ?_
 rcases Xa1 h with ⟨hc8, h⟩ | ⟨hc8, h⟩
 refine F_ rfl hc8 <| Y_ <| K_ <| K_ <| U_ <| C_ <| I_ <| B_ <| us 3 rfl <| A_ <| Q_ <| H_ <| P_ <| H_ <| P_ <| H_ ?_
 cases oi h
 replace h := hOy6
 refine H_ <| P_ <| H_ ?_
 cases oi h
 refine Z_ (vs := [(.int .i64 0), (.int .i64 0), (.int .i64 11)]) (T_ rfl (T_ rfl (T_ rfl Xas))) (L_ rfl (L_ rfl (L_ rfl rfl))) ?_
 exact rfl
 refine G_ rfl hc8 <| M_ <| C_ <| B_ <| us 3 rfl <| A_ ?_
 rcases Xa1 h with ⟨hc9, h⟩ | ⟨hc9, h⟩
 refine F_ rfl hc9 <| Y_ <| K_ <| W_ rfl <| K_ <| U_ <| C_ <| B_ <| us 3 rfl <| A_ <| I_ <| B_ <| us 5 rfl <| A_ ?_
 rcases Xa1 h with ⟨hc10, h⟩ | ⟨hc10, h⟩
 refine F_ rfl hc10 <| B_ <| us 3 rfl <| A_ <| Q_ <| H_ <| P_ <| H_ ?_
 cases oi h
 replace h := hOy6
 refine H_ <| P_ <| H_ ?_
 cases oi h
 refine Z_ (vs := [(.int .i64 0), (.int .i64 0), (.int .i64 10)]) (T_ rfl (T_ rfl (T_ rfl Xas))) (L_ rfl (L_ rfl (L_ rfl rfl))) ?_
 exact rfl
 refine G_ rfl hc10 <| M_ <| C_ <| B_ <| us 1 rfl <| A_ <| B_ <| us 3 rfl ?_
 obtain ⟨z11, hz11, h⟩ := Xaf h
 refine w (.str z11) rfl (nz rfl (XcH rfl rfl rfl rfl hz11)) <| WO.ex rfl (nzx rfl (Xe2 rfl rfl rfl rfl H)) ?_
 rintro v12 S ⟨hv12, H⟩
 refine w (.int .i64 (Sl.len (Str.bytes z11))) rfl (nz rfl (XdC rfl hv12 rfl)) <| us 1 rfl <| A_ ?_
 obtain ⟨y13, hy13, hOy13⟩ := Xaf h
 refine R_ ?_
 refine Xoh (hv12) ?_ hy13  kn (H.sub .slnil (.cons _ .slnil) .slnil)
 intro σ S  hk H; replace h := hOy13
 refine J_ hk <| U_ <| V_ <| C_ ?_
 cases oi h
 exact ⟨_, rfl, kn, (hs H), rfl⟩
 refine G_ rfl hc9 <| M_ <| C_ <| Y_ <| W_ rfl <| K_ <| W_ rfl <| K_ <| U_ <| C_ ?_
 cases oi h
 exact ⟨_, rfl, kn, (hs H), rfl⟩
 rintro σ S e ⟨y6b, rfl, hk, H, rfl⟩
 replace h := hOy6
 dsimp only at h
 refine J_ hk <| C_ <| I_ <| B_ <| us 2 rfl <| A_ ?_
 rcases Xa1 h with ⟨hc14, h⟩ | ⟨hc14, h⟩
 refine F_ rfl hc14 <| B_ <| us 3 rfl <| A_ <| Q_ <| H_ <| P_ <| H_ ?_
 cases oi h
 refine Z_ (vs := [(.int .i64 0), (.int .i64 0), (.int .i64 13)]) (T_ rfl (T_ rfl (T_ rfl Xas))) (L_ rfl (L_ rfl (L_ rfl rfl))) ?_
 exact rfl
 refine G_ rfl hc14 <| M_ <| C_ <| Y_ <| U_ <| C_ <| B_ <| us 6 rfl <| A_ <| Q_ ?_
 cases oi h
 refine Z_ (vs := [(.int .i64 (ad .i64 2 y6b.2)), (.int .i64 y6b.1), (.int .i64 0)]) (T_ rfl (T_ rfl (T_ rfl Xas))) (L_ rfl (L_ rfl (L_ rfl rfl))) ?_
 exact rfl
def XdF (rc0 : XaG → Int → Int → Int → Option (XaG × Xab × Int × Int)) (k : Nat) (a1 : Int) (a2 : Int) (a3 : Int) (a4 : Xab) : Nat → Int → Xab → XaG → Option (Out (XaG × Xab × Int × Int) (Int × Xab × XaG))
 | 0, _, _, _ => none
 | n + 1, x5, b6, b7 =>
  if decide (x5 < (ad .i64 a3 a2)) then
  (rc0 b7 x5 (ad .i64 a3 a2) (ad .i64 a1 1)).bind fun y8 =>
  if y8.2.2.2 != 0 then
  some (Out.ret (y8.1, (Xab.mk 0 [] none), 0, y8.2.2.2))
  else
  (Sl.app? 48 b6.Kids (Sl.l (some [y8.2.1]))).bind fun z9 =>
  XdF rc0 k a1 a2 a3 a4 n y8.2.2.1 (Xab.mk b6.Tag b6.Body z9) y8.1
  else
  some (Out.brk (x5, b6, b7))
def F93 : Nat → XaG → Int → Int → Int → Option (XaG × Xab × Int × Int)
 | 0, _, _, _, _ => none
 | k + 1, a0, a1, a2, a3 =>
  if decide (a3 > 20) then
  some ((XaG.mk a0.s_ a1), (Xab.mk 0 [] none), 0, 12)
  else
  (Str.sub? a0.s_ a1 a2).bind fun z3 =>
  (XoE k z3).bind fun y4 =>
  (if (y4.2.2 == 0) && (decide (y4.2.1 > (sb .i64 (sb .i64 a2 a1) y4.1))) then
  some 10
  else
  some y4.2.2).bind fun y8 =>
  (if (y8 == 10) && (decide (a3 > 1)) then
  some 11
  else
  some y8).bind fun y5 =>
  if y5 != 0 then
  some ((XaG.mk a0.s_ a1), (Xab.mk 0 [] none), 0, y5)
  else
  (Str.at? a0.s_ a1).bind fun c6 =>
  if (Xej .u8 c6 32) == 0 then
  (Str.sub? a0.s_ (ad .i64 a1 y4.1) (ad .i64 (ad .i64 a1 y4.1) y4.2.1)).bind fun z7 =>
  some ((XaG.mk a0.s_ a1), (Xab.mk c6 z7 none), ad .i64 (ad .i64 a1 y4.1) y4.2.1, 0)
  else
  (XdF (F93 k) k a3 y4.2.1 (ad .i64 a1 y4.1) (Xab.mk 0 [] none) k (ad .i64 a1 y4.1) (Xab.mk c6 [] none) (XaG.mk a0.s_ a1)).bind fun y9 =>
  match y9 with
  | .ret y9r => some (y9r.1, y9r.2.1, y9r.2.2.1, y9r.2.2.2)
  | .brk y9b =>
  some (y9b.2.2, y9b.2.1, ad .i64 (ad .i64 a1 y4.1) y4.2.1, 0)
theorem XsP {rc0 : XaG → Int → Int → Int → Option (XaG × Xab × Int × Int)} (hrc0 : ∀ {a0 : XaG} {a1 : Int} {a2 : Int} {a3 : Int} {r : XaG × Xab × Int × Int}, rc0 a0 a1 a2 a3 = some r → ∀ {id : Nat} {S : List SObj}, S[id]? = some (.cells (XbI a0)) → evw env 93 [.ptr id 0, (.int .i64 a1), (.int .i64 a2), (.int .i64 a3)] S = some ((.tup [(.agg (Xaa r.2.1)), (.int .i64 r.2.2.1), (.int .i64 r.2.2.2)]), S.set id (.cells (XbI r.1)), false)) {k : Nat} {a4 : Int} {a5 : Int} {a6 : Int} {a7 : Xab} {S0 : List SObj} {R : List Nat} {K : KX} {i8 : Nat} {i1 : Nat} {id : Nat} (hi8 : S0.length ≤ i8) (hi1 : S0.length ≤ i1)  {o : Out (XaG × Xab × Int × Int) (Int × Xab × XaG)}
  (hret : ∀ r : XaG × Xab × Int × Int, o = .ret r → ∀ {σ' : Nat → PV} {S' : List SObj} (v9 : PV) (_ : Xa8 Xac r.2.1.Kids v9), Xa2 [(8, (.ptr i1 0)), (9, (.int .i64 r.2.2.1)), (10, (.int .i64 r.2.2.2))] σ' → Hp S0 R S' [(i1, .cells (Xau r.2.1 v9)), (id, .cells (XbI r.1))] [] [] → K .ret σ' S' false)
  (hbrk : ∀ y : Int × Xab × XaG, o = .brk y → ∀ {σ' : Nat → PV} {S' : List SObj}, ∀ (v10 : PV) (_ : Xa8 Xac y.2.1.Kids v10), Xa2 [(8, (.ptr i1 0)), (12, (.int .i64 a5)), (14, (.int .i64 a6)), (15, (.ptr i8 0))] σ' → Hp S0 R S' [(i8, .cells (Xau y.2.1 v10)), (i1, .cells (Xau a7 .nils)), (id, .cells (XbI y.2.2))] [(v10, 3)] [] → K (.exit 0) σ' S' false) :
  ∀ {n : Nat} {x11 : Int} {b12 : Xab} {b13 : XaG}, XdF rc0 k a4 a5 a6 a7 n x11 b12 b13 = some o → ∀ {σ : Nat → PV} {S : List SObj}, ∀ (v14 : PV) (_ : Xa8 Xac b12.Kids v14), Xa2 [(0, (.ptr id 0)), (3, (.int .i64 a4)), (8, (.ptr i1 0)), (12, (.int .i64 a5)), (14, (.int .i64 a6)), (15, (.ptr i8 0)), (16, (.int .i64 x11))] σ → Hp S0 R S [(i8, .cells (Xau b12 v14)), (i1, .cells (Xau a7 .nils)), (id, .cells (XbI b13))] [(v14, 3)] [] → WC env ⟨121, S0.length⟩ (.loop XqI) σ S false K := by
 intro n
 induction n with
 | zero => intro _ _ _ h; cases h
 | succ n ih =>
  intro x11 b12 b13 h σ S v14 hv14 hk H
  rw [XdF] at h
  refine b_ <| X_ hk <| I_ <| B_ <| us 5 rfl <| A_ ?_
  rcases Xa1 h with ⟨hc15, h⟩ | ⟨hc15, h⟩
  refine F_ rfl hc15 <| M_ <| C_ <| R_ <| B_ <| us 7 rfl ?_
  obtain ⟨y16, hy16, h⟩ := Xaf h
  refine WO.callR 2 rfl rfl rfl rfl H rfl (hrc0 hy16 (H.get 2 rfl)) ?_
  intro S H
  refine us 4 rfl <| Wa (ti := XbA) H rfl ?_
  intro i17 S hi17 H
  refine Ws 0 H hi17 rfl ?_
  intro S H
  refine us 2 rfl <| A_ <| I_ <| B_ <| us 2 rfl <| A_ ?_
  rcases Xa1 h with ⟨hc18, h⟩ | ⟨hc18, h⟩
  refine F_ rfl hc18 <| B_ <| w (.agg [(.int .u8 0), (.str []), .nils]) rfl (nz rfl (XaH (ti := XbA) rfl rfl rfl rfl rfl rfl)) <| us 1 rfl <| Ws 2 H hi1 rfl ?_
  intro S H
  refine us 2 rfl <| A_ <| Q_ <| H_ <| P_ <| H_ ?_
  cases oi h
  exact hret _ rfl .nils ((Xam _)) kn (H.sub (.cons _ (.cons _ (.cons_cons _ (.cons_cons _ .slnil)))) (.cons _ .slnil) .slnil)
  refine G_ rfl hc18 <| M_ <| C_ <| B_ <| us 1 rfl <| Wg H 1 rfl <| Wg H 0 rfl <| WS rfl (nz rfl (Xaj (ys := [y16.2.1]) (f := Xac) (parts := [(0, (.agg (Xaa y16.2.1)))]) rfl rfl rfl rfl rfl (by simp only [Xax, List.map_cons, List.map_nil, Xap, Xaq, Xai, Xad, Xal]) (fc ⟨rfl, rfl⟩ (fun p hp => nomatch hp)) rfl)) ?_
  have hv19 : Xa8 Xac (some [y16.2.1]) _ := ⟨.full, rfl⟩
  obtain ⟨z20, hz20, h⟩ := Xaf h
  refine WO.ex rfl (nzx (Xaw hv19.frz rfl) (Xb0 (f := Xac) (ei := XbA) H 0 rfl rfl hv14 rfl hv19 rfl rfl rfl rfl (fun a => (Xa4 a).2.1) hz20)) ?_
  rintro v21 S ⟨hv21, H⟩
  refine us 1 rfl <| WO.store 1 rfl (Xaw hv21.frz rfl) H rfl rfl rfl rfl hv21.one.1 hv21.one.2 rfl (D_ rfl) rfl (XeQ hi8) ?_
  intro S H
  refine A_ <| S_ <| us 2 rfl <| A_ <| V_ <| C_ ?_
  exact ih h v21 (hv21) kn (H.sub (.cons _ (.cons_cons _ (.cons_cons _ (.cons_cons _ .slnil)))) (.cons_cons _ .slnil) .slnil)
  refine G_ rfl hc15 <| Y_ <| K_ <| K_ ?_
  cases oi h
  exact hbrk _ rfl v14 (hv14) kn (hs H)
theorem s93 : ∀ k : Nat, ∀ {a0 : XaG} {a1 : Int} {a2 : Int} {a3 : Int} {r : XaG × Xab × Int × Int}, F93 k a0 a1 a2 a3 = some r → ∀ {id : Nat} {S : List SObj}, S[id]? = some (.cells (XbI a0)) → evw env 93 [.ptr id 0, (.int .i64 a1), (.int .i64 a2), (.int .i64 a3)] S = some ((.tup [(.agg (Xaa r.2.1)), (.int .i64 r.2.2.1), (.int .i64 r.2.2.2)]), S.set id (.cells (XbI r.1)), false) := by
 intro k
 induction k with
 | zero => intro _ _ _ _ r h; cases h
 | succ k ih =>
  intro a0 a1 a2 a3 r h id S0 hS
  rw [F93] at h
  refine Xk7 (pf := Xt8) rfl rfl (D_ rfl) rfl ?_
  refine o_ (pf := Xt8) rfl ?_
  have H := Hp.start1 hS rfl
  refine B_ <| Wa (ti := XbA) H rfl ?_
  intro i1 S hi1 H
  refine us 2 rfl <| A_ <| B_ <| us 4 rfl <| WO.store 1 rfl rfl H rfl rfl rfl rfl rfl rfl rfl (D_ rfl) rfl (XiQ rfl) ?_
  intro S H
  refine A_ <| I_ <| B_ <| us 2 rfl <| A_ ?_
  rcases Xa1 h with ⟨hc6, h⟩ | ⟨hc6, h⟩
  refine F_ rfl hc6 <| B_ <| w (.agg [(.int .u8 0), (.str []), .nils]) rfl (nz rfl (XaH (ti := XbA) rfl rfl rfl rfl rfl rfl)) <| Ws 0 H hi1 rfl ?_
  intro S H
  refine us 2 rfl <| A_ <| Q_ <| H_ ?_
  cases oi h
  refine Z_ (vs := [(.agg [(.int .u8 0), (.str []), .nils]), (.int .i64 0), (.int .i64 12)]) (Xa0 rfl (H.get 0 rfl) rfl (T_ rfl (T_ rfl Xas))) (L_ rfl (L_ rfl (L_ rfl rfl))) ?_
  exact Xe3 hS H 1 rfl (by simp only [Xa7, List.map_cons, List.map_nil, Xal, Xb1, Xap, Xaq, Xbp, Xbc, Xad, Xb8, Xaa]) cq
  refine G_ rfl hc6 <| M_ <| C_ <| B_ <| us 3 rfl <| Wg H 1 rfl <| us 2 rfl ?_
  obtain ⟨z3, hz3, h⟩ := Xaf h
  refine w (.str z3) rfl (nz rfl (XcH rfl rfl rfl rfl hz3)) ?_
  obtain ⟨y4, hy4, h⟩ := Xaf h
  refine Cl (.tup [(.int .i64 y4.1), (.int .i64 y4.2.1), (.int .i64 y4.2.2)]) [(.str z3)] rfl rfl (s108 _ hy4 rfl) <| us 7 rfl <| A_ <| I_ <| B_ <| us 1 rfl <| w (.bool (y4.2.2 == 0)) rfl rfl <| w (.bool (y4.2.2 == 0)) rfl rfl ?_
  refine O_ 8 (SH H [(0, (.ptr id 0)), (1, (.int .i64 a1)), (3, (.int .i64 a3)), (8, (.ptr i1 0)), (11, (.int .i64 y4.1)), (12, (.int .i64 y4.2.1)), (13, (.int .i64 y4.2.2)), (49, (.bool ((y4.2.2 == 0) && (decide (y4.2.1 > (sb .i64 (sb .i64 a2 a1) y4.1))))))]) ?_ ?_
  revert H
  cases hc5 : (y4.2.2 == 0)
  intro H
  refine us 8 rfl <| A_ ?_
  exact kf H
  intro H
  refine us 8 rfl <| A_ ?_
  exact kf H
  rintro σ S e ⟨hk, H, rfl⟩
  refine E_ hk <| A_ ?_
  obtain ⟨y8, hy8, hOy8⟩ := Xaf h
  refine a_ (SJ [(0, (.ptr id 0)), (1, (.int .i64 a1)), (3, (.int .i64 a3)), (8, (.ptr i1 0)), (11, (.int .i64 y4.1)), (12, (.int .i64 y4.2.1)), (13, (.int .i64 y8))] S0 [id] [(i1, .cells [(.int .u8 0), (.str []), .nils]), (id, .cells [(.str a0.s_), (.int .i64 a1)])] [] [] false) ?_ ?_
  replace h := hy8
  rcases Xa1 h with ⟨hc9, h⟩ | ⟨hc9, h⟩
  refine F_ rfl hc9 <| S_ <| us 1 rfl <| A_ <| C_ ?_
  cases oi h
  exact kh H
  refine G_ rfl hc9 <| M_ <| C_ ?_
  cases oi h
  exact kh H
  rintro σ S e ⟨hk, H, rfl⟩
  replace h := hOy8
  refine J_ hk <| C_ <| I_ <| B_ <| us 1 rfl <| w (.bool (y8 == 10)) rfl rfl <| w (.bool (y8 == 10)) rfl rfl ?_
  refine O_ 3 (SH H [(0, (.ptr id 0)), (1, (.int .i64 a1)), (3, (.int .i64 a3)), (8, (.ptr i1 0)), (11, (.int .i64 y4.1)), (12, (.int .i64 y4.2.1)), (13, (.int .i64 y8)), (55, (.bool ((y8 == 10) && (decide (a3 > 1)))))]) ?_ ?_
  revert H
  cases hc7 : (y8 == 10)
  intro H
  refine us 3 rfl <| A_ ?_
  exact kf H
  intro H
  refine us 3 rfl <| A_ ?_
  exact kf H
  rintro σ S e ⟨hk, H, rfl⟩
  refine E_ hk <| A_ ?_
  obtain ⟨y10, hy10, hOy10⟩ := Xaf h
  refine a_ (SJ [(0, (.ptr id 0)), (1, (.int .i64 a1)), (3, (.int .i64 a3)), (8, (.ptr i1 0)), (11, (.int .i64 y4.1)), (12, (.int .i64 y4.2.1)), (13, (.int .i64 y10))] S0 [id] [(i1, .cells [(.int .u8 0), (.str []), .nils]), (id, .cells [(.str a0.s_), (.int .i64 a1)])] [] [] false) ?_ ?_
  replace h := hy10
  rcases Xa1 h with ⟨hc11, h⟩ | ⟨hc11, h⟩
  refine F_ rfl hc11 <| S_ <| us 1 rfl <| A_ <| C_ ?_
  cases oi h
  exact kh H
  refine G_ rfl hc11 <| M_ <| C_ ?_
  cases oi h
  exact kh H
  rintro σ S e ⟨hk, H, rfl⟩
  replace h := hOy10
  refine J_ hk <| C_ <| I_ <| B_ <| us 2 rfl <| A_ ?_
  rcases Xa1 h with ⟨hc12, h⟩ | ⟨hc12, h⟩
  refine F_ rfl hc12 <| B_ <| w (.agg [(.int .u8 0), (.str []), .nils]) rfl (nz rfl (XaH (ti := XbA) rfl rfl rfl rfl rfl rfl)) <| us 1 rfl <| Ws 0 H hi1 rfl ?_
  intro S H
  refine us 2 rfl <| A_ <| Q_ <| H_ ?_
  cases oi h
  refine Z_ (vs := [(.agg [(.int .u8 0), (.str []), .nils]), (.int .i64 0), (.int .i64 y10)]) (Xa0 rfl (H.get 0 rfl) rfl (T_ rfl (T_ rfl Xas))) (L_ rfl (L_ rfl (L_ rfl rfl))) ?_
  exact Xe3 hS H 1 rfl (by simp only [Xa7, List.map_cons, List.map_nil, Xal, Xb1, Xap, Xaq, Xbp, Xbc, Xad, Xb8, Xaa]) cq
  refine G_ rfl hc12 <| M_ <| C_ <| B_ <| us 4 rfl <| A_ <| B_ <| us 3 rfl <| Wg H 1 rfl <| us 1 rfl ?_
  obtain ⟨c13, hc13, h⟩ := Xaf h
  refine w (.int .u8 c13) rfl (nz rfl (XaU rfl rfl rfl hc13)) <| w (.agg [(.int .u8 c13), (.str []), .nils]) rfl (nz rfl (XaH (ti := XbA) rfl rfl rfl rfl rfl (Xav rfl rfl rfl rfl (D_ rfl) rfl rfl))) <| Wa (ti := XbA) H rfl ?_
  intro i14 S hi14 H
  refine Ws 0 H hi14 rfl ?_
  intro S H
  refine A_ <| I_ <| B_ <| us 1 rfl <| Wg H 0 rfl <| us 2 rfl <| A_ ?_
  rcases Xa1 h with ⟨hc15, h⟩ | ⟨hc15, h⟩
  refine F_ rfl hc15 <| B_ <| us 3 rfl <| Wg H 2 rfl <| us 4 rfl ?_
  obtain ⟨z16, hz16, h⟩ := Xaf h
  refine w (.str z16) rfl (nz rfl (XcH rfl rfl rfl rfl hz16)) <| us 1 rfl <| Ws 0 H hi14 rfl ?_
  intro S H
  refine A_ <| B_ <| Wg H 0 rfl <| us 3 rfl <| Ws 1 H hi1 rfl ?_
  intro S H
  refine us 2 rfl <| A_ <| Q_ <| H_ ?_
  cases oi h
  refine Z_ (vs := [(.agg [(.int .u8 c13), (.str z16), .nils]), (.int .i64 (ad .i64 (ad .i64 a1 y4.1) y4.2.1)), (.int .i64 0)]) (Xa0 rfl (H.get 1 rfl) rfl (T_ rfl (T_ rfl Xas))) (L_ rfl (L_ rfl (L_ rfl rfl))) ?_
  exact Xe3 hS H 2 rfl (by simp only [Xa7, List.map_cons, List.map_nil, Xal, Xb1, Xap, Xaq, Xbp, Xbc, Xad, Xb8, Xaa]) cq
  refine G_ rfl hc15 <| M_ <| C_ <| I_ <| B_ <| us 2 rfl <| A_ ?_
  obtain ⟨y17, hy17, hOy17⟩ := Xaf h
  refine R_ ?_
  have H := H.addNil 3
  refine XsP ih hi14 hi1 ?_ ?_ hy17 .nils ((Xam _)) kn (hs H)
  intro y17r he σ S v18 hv18 hk H; subst he; replace h := hOy17; dsimp only at h
  refine J_ hk <| P_ <| H_ ?_
  cases oi h
  refine Z_ (vs := [(.agg (Xau y17r.2.1 v18)), (.int .i64 y17r.2.2.1), (.int .i64 y17r.2.2.2)]) (Xa0 rfl (H.get 0 rfl) rfl (T_ rfl (T_ rfl Xas))) (L_ rfl (L_ rfl (L_ rfl rfl))) ?_
  exact Xe3 hS H 1 rfl (by simp only [Xa7, List.map_cons, List.map_nil, Xal, Xb1, Xap, Xaq, hv18.strip1, Xad, Xb8, Xaa]) cq
  intro y17b he σ S v19 hv19 hk H; subst he; replace h := hOy17; dsimp only at h
  refine J_ hk <| U_ <| C_ <| B_ <| Wg H 0 rfl <| us 3 rfl <| Ws 1 H hi1 rfl ?_
  intro S H
  refine us 2 rfl <| A_ <| Q_ ?_
  cases oi h
  refine Z_ (vs := [(.agg (Xau y17b.2.1 v19)), (.int .i64 (ad .i64 (ad .i64 a1 y4.1) y4.2.1)), (.int .i64 0)]) (Xa0 rfl (H.get 1 rfl) rfl (T_ rfl (T_ rfl Xas))) (L_ rfl (L_ rfl (L_ rfl rfl))) ?_
  exact Xe3 hS H 2 rfl (by simp only [Xa7, List.map_cons, List.map_nil, Xal, Xb1, Xap, Xaq, hv19.strip1, Xad, Xb8, Xaa]) cq
def F72 (k : Nat) (a0 : Str) : Option (Xab × Int × Int × Int) :=
 (F93 k (XaG.mk a0 0) 0 (Str.len a0) 1).bind fun y3 =>
 if y3.2.2.2 != 0 then
 some ((Xab.mk 0 [] none), 0, y3.1.at_, y3.2.2.2)
 else
 some (y3.2.1, y3.2.2.1, 0, 0)
theorem s72 : ∀ k : Nat, ∀ {a0 : Str} {r : Xab × Int × Int × Int}, F72 k a0 = some r → Q 72 [(.str a0)] (.tup [(.agg (Xaa r.1)), (.int .i64 r.2.1), (.int .i64 r.2.2.1), (.int .i64 r.2.2.2)]) := by
 intro k a0 r h vs ha S
 unfold F72 at h
 refine e_ (pf := Xt9) rfl rfl ha (D_ rfl) rfl cq ?_
 refine o_ (pf := Xt9) rfl ?_
 have H := g_ []
 refine B_ <| Wa (ti := XbA) H rfl ?_
 intro i1 S hi1 H
 refine us 3 rfl <| A_ <| B_ <| us 1 rfl <| w (.agg [(.str a0), (.int .i64 0)]) rfl (nz rfl (XaH (ti := XmP) rfl rfl rfl rfl rfl (Xav rfl rfl rfl rfl (D_ rfl) rfl rfl))) <| Wb H rfl ?_
 intro i2 S hi2 H
 refine us 1 rfl <| A_ <| B_ <| us 3 rfl ?_
 obtain ⟨y3, hy3, h⟩ := Xaf h
 refine WO.callR 0 rfl rfl rfl rfl H rfl (s93 _ hy3 (H.get 0 rfl)) ?_
 intro S H
 refine us 4 rfl <| Wa (ti := XbA) H rfl ?_
 intro i4 S hi4 H
 refine Ws 0 H hi4 rfl ?_
 intro S H
 refine us 2 rfl <| A_ <| I_ <| B_ <| us 2 rfl <| A_ ?_
 rcases Xa1 h with ⟨hc8, h⟩ | ⟨hc8, h⟩
 refine F_ rfl hc8 <| I_ <| j_ <| WK.step (v := (.agg [(.int .u8 0), (.str []), .nils])) rfl (nz rfl (XaH (ti := XbA) rfl rfl rfl rfl rfl rfl)) rfl rfl rfl rfl <| wk _ rfl rfl rfl rfl <| wk _ rfl rfl rfl rfl <| wk _ rfl rfl rfl rfl <| wkl H 1 rfl rfl rfl rfl <| wk _ rfl rfl rfl rfl ?_
 have Hh7 := H
 refine Wsk 2 H hi1 rfl ?_
 intro S H
 refine ⟨(Xah (ld (H.get 1 rfl) rfl) Xa9), ?_⟩
 refine wk _ rfl rfl rfl rfl <| wk _ rfl rfl rfl rfl <| WK.nil <| us 1 rfl <| A_ <| C_ <| Q_ <| H_ ?_
 cases oi h
 refine Z_ (vs := [(.agg [(.int .u8 0), (.str []), .nils]), (.int .i64 0), (.int .i64 y3.1.at_), (.int .i64 y3.2.2.2)]) (Xa0 rfl (H.get 2 rfl) rfl (T_ rfl (T_ rfl (T_ rfl Xas)))) (L_ rfl (L_ rfl (L_ rfl (L_ rfl rfl)))) ?_
 exact (by simp only [Xa7, List.map_cons, List.map_nil, Xal, Xb1, Xap, Xaq, Xbp, Xbc, Xad, Xb8, Xaa])
 refine G_ rfl hc8 <| M_ <| C_ <| B_ <| Wg H 0 rfl <| us 1 rfl <| Ws 2 H hi1 rfl ?_
 intro S H
 refine us 3 rfl <| A_ <| Q_ ?_
 cases oi h
 refine Z_ (vs := [(.agg (Xaa y3.2.1)), (.int .i64 y3.2.2.1), (.int .i64 0), (.int .i64 0)]) (Xa0 rfl (H.get 2 rfl) rfl (T_ rfl (T_ rfl (T_ rfl Xas)))) (L_ rfl (L_ rfl (L_ rfl (L_ rfl rfl)))) ?_
 exact (by simp only [Xa7, List.map_cons, List.map_nil, Xal, Xb1, Xap, Xaq, Xai, Xad, Xb8, Xaa])
def F94 (k : Nat) (a0 : Xab) (a1 : Int) : Option Xab :=
 if decide (a1 ≥ (Sl.len a0.Kids)) then
 some (Xab.mk 0 [] none)
 else
 (Sl.at? a0.Kids a1).bind fun y4 =>
 some y4
theorem s94 : ∀ k : Nat, ∀ {a0 : Xab} {a1 : Int} {r : Xab}, F94 k a0 a1 = some r → Q 94 [(.agg (Xaa a0)), (.int .i64 a1)] (.agg (Xaa r)) := by
 intro k a0 a1 r h vs ha S
 unfold F94 at h
 refine e_ (pf := XtA) rfl rfl ha (D_ rfl) cq cq ?_
 refine o_ (pf := XtA) rfl ?_
 have H := g_ []
 refine B_ <| Wb H rfl ?_
 intro i1 S hi1 H
 refine Wa (ti := XbA) H rfl ?_
 intro i2 S hi2 H
 refine A_ <| I_ <| B_ <| us 2 rfl <| Wg H 1 rfl <| Wl rfl <| us 1 rfl <| A_ ?_
 rcases Xa1 h with ⟨hc5, h⟩ | ⟨hc5, h⟩
 refine F_ rfl hc5 <| B_ <| w (.agg [(.int .u8 0), (.str []), .nils]) rfl (nz rfl (XaH (ti := XbA) rfl rfl rfl rfl rfl rfl)) <| Ws 0 H hi2 rfl ?_
 intro S H
 refine A_ <| Q_ <| H_ ?_
 have h := oi h; subst h
 refine Z_ (vs := [(.agg [(.int .u8 0), (.str []), .nils])]) (Xa0 rfl (H.get 0 rfl) rfl Xas) (L_ rfl rfl) ?_
 exact (by simp only [Xa7, List.map_cons, List.map_nil, Xal, Xax, Xap, Xaq, Xbp, Xbc, Xad, Xaa])
 refine G_ rfl hc5 <| M_ <| C_ <| B_ <| us 1 rfl <| Wg H 1 rfl <| us 1 rfl ?_
 obtain ⟨y4, hy4, h⟩ := Xaf h
 refine Wx hy4 (XaD _) rfl <| us 1 rfl <| Ws 0 H hi2 rfl ?_
 intro S H
 refine A_ <| Q_ ?_
 have h := oi h; subst h
 refine Z_ (vs := [(.agg (Xaa y4))]) (Xa0 rfl (H.get 0 rfl) rfl Xas) (L_ rfl rfl) ?_
 exact (by simp only [Xa7, List.map_cons, List.map_nil, Xal, Xax, Xap, Xaq, Xai, Xad, Xaa])
def XcO (k : Nat) (a0 : Str) (a1 : Sl Int) (a2 : Int) : Nat → Int → Int → Option (Int × Int)
 | 0, _, _ => none
 | n + 1, x3, x4 =>
  if decide (x4 < a2) then
  (Sl.at? a1 x4).bind fun y5 =>
  (Xlm .i64 x3 8).bind fun z6 =>
  XcO k a0 a1 a2 n (bOr .i64 z6 (cv .i64 y5)) (ad .i64 x4 1)
  else
  some (x3, x4)
def Xoi (k : Nat) (a0 : Str) : Option (Int × Bool) :=
 (if (a0 == []) || (decide ((Str.len a0) > 8)) then
 some (Out.ret (0, false))
 else
 (Str.at? a0 0).bind fun c1 =>
 if (Xej .u8 c1 128) != 0 then
 some (Out.brk (-1))
 else
 some (Out.brk 0)).bind fun y2 =>
 match y2 with
 | .ret r => some r
 | .brk y2b =>
 (XcO k a0 (Str.bytes a0) (Sl.len (Str.bytes a0)) k y2b 0).bind fun y3 =>
 (F51 k y3.1).bind fun y4 =>
 if !(y4 == a0) then
 some (0, false)
 else
 some (y3.1, true)
theorem Xoj {k : Nat} {a1 : Str} {a2 : Sl Int} {a3 : Int} {S0 : List SObj} {R : List Nat} {K : KX} {v4 : PV} (hv4 : Xa8 (eI .u8) a2 v4)  {o : (Int × Int)}
  (hbrk : EK [(0, (.str a1)), (4, (.int .i64 o.1))] S0 R [] [] [] (K (.exit 4))) :
  ∀ {n : Nat} {x5 : Int} {x6 : Int}, XcO k a1 a2 a3 n x5 x6 = some o → ∀ {σ : Nat → PV} {S : List SObj}, Xa2 [(0, (.str a1)), (4, (.int .i64 x5)), (21, v4), (22, (.int .i64 a3)), (23, (.int .i64 x6))] σ → Hp S0 R S [] [] [] → WC env ⟨38, S0.length⟩ (.loop Xn1) σ S false K := by
 intro n
 induction n with
 | zero => intro _ _ h; cases h
 | succ n ih =>
  intro x5 x6 h σ S  hk H
  rw [XcO] at h
  refine b_ <| X_ hk <| B_ <| us 1 rfl <| A_ <| I_ ?_
  rcases Xa1 h with ⟨hc7, h⟩ | ⟨hc7, h⟩
  refine F_ rfl hc7 <| M_ <| C_ <| I_ <| R_ <| B_ ?_
  obtain ⟨y8, hy8, h⟩ := Xaf h
  refine w (.iptr [(.int .u8 y8)] 0) rfl (nz rfl (Xbv rfl hv4 rfl rfl rfl hy8 rfl rfl)) <| us 2 rfl <| A_ <| S_ <| us 1 rfl ?_
  obtain ⟨z9, hz9, h⟩ := Xaf h
  refine w (.int .i64 z9) rfl (nz rfl (Xk5 rfl rfl hz9)) <| us 4 rfl <| A_ <| V_ <| C_ <| S_ <| us 2 rfl <| A_ <| C_ ?_
  exact ih h  kn (hs H)
  refine G_ rfl hc7 <| Y_ <| K_ <| K_ ?_
  cases oi h
  exact hbrk  kn (hs H)
theorem s109 : ∀ k : Nat, ∀ {a0 : Str} {r : Int × Bool}, Xoi k a0 = some r → Q 109 [(.str a0)] (.tup [(.int .i64 r.1), (.bool r.2)]) := by
 intro k a0 r h
 unfold Xoi at h
 refine Qg (pf := Xn2) rfl rfl rfl fun H => ?_
 refine B_ <| us 2 rfl <| A_ <| B_ <| us 1 rfl <| A_ <| I_ <| R_ <| I_ ?_
 obtain ⟨y1, hy1, hOy1⟩ := Xaf h
 refine a_ (fun σ' S' e' => ∃ y1b, y1 = .brk y1b ∧ Xa2 ([(0, (.str a0)), (4, (.int .i64 y1b))]) σ' ∧ Hp [] [] S' [] [] [] ∧ e' = false) ?_ ?_
 replace h := hy1
 refine R_ <| I_ <| R_ <| I_ <| R_ <| I_ <| I_ <| B_ <| us 1 rfl <| w (.bool (a0 == [])) rfl rfl <| w (.bool (a0 == [])) rfl rfl ?_
 refine O_ 4 (SH H [(0, (.str a0)), (4, (.int .i64 0)), (14, (.bool ((a0 == []) || (decide ((Str.len a0) > 8)))))]) ?_ ?_
 revert H
 cases hc2 : (a0 == [])
 intro H
 refine us 4 rfl <| A_ ?_
 exact kf H
 intro H
 refine us 4 rfl <| A_ ?_
 exact kf H
 rintro σ S e ⟨hk, H, rfl⟩
 refine E_ hk <| us 1 rfl <| A_ ?_
 rcases Xa1 h with ⟨hc3, h⟩ | ⟨hc3, h⟩
 refine F_ rfl hc3 <| Y_ <| K_ <| K_ <| U_ <| C_ <| I_ <| B_ <| us 2 rfl <| A_ <| Q_ <| H_ <| P_ <| H_ <| P_ <| H_ ?_
 cases oi h
 replace h := hOy1
 refine H_ <| P_ <| H_ ?_
 cases oi h
 refine Z_ (vs := [(.int .i64 0), (.bool false)]) (T_ rfl (T_ rfl Xas)) (L_ rfl (L_ rfl rfl)) ?_
 exact rfl
 refine G_ rfl hc3 <| M_ <| C_ <| B_ <| us 1 rfl ?_
 obtain ⟨c4, hc4, h⟩ := Xaf h
 refine w (.int .u8 c4) rfl (nz rfl (XaU rfl rfl rfl hc4)) <| us 3 rfl <| A_ ?_
 rcases Xa1 h with ⟨hc5, h⟩ | ⟨hc5, h⟩
 refine F_ rfl hc5 <| Y_ <| K_ <| W_ rfl <| K_ <| U_ <| C_ <| S_ <| us 1 rfl <| A_ <| V_ <| C_ ?_
 cases oi h
 exact ⟨_, rfl, kn, (hs H), rfl⟩
 refine G_ rfl hc5 <| M_ <| C_ <| Y_ <| W_ rfl <| K_ <| W_ rfl <| K_ <| U_ <| C_ ?_
 cases oi h
 exact ⟨_, rfl, kn, (hs H), rfl⟩
 rintro σ S e ⟨y1b, rfl, hk, H, rfl⟩
 replace h := hOy1
 dsimp only at h
 refine J_ hk <| C_ <| I_ <| B_ <| us 1 rfl <| WO.ex rfl (nzx rfl (Xe2 rfl rfl rfl rfl H)) ?_
 rintro v6 S ⟨hv6, H⟩
 refine w (.int .i64 (Sl.len (Str.bytes a0))) rfl (nz rfl (XdC rfl hv6 rfl)) <| us 1 rfl <| A_ ?_
 obtain ⟨y7, hy7, hOy7⟩ := Xaf h
 refine R_ ?_
 refine Xoj (hv6) ?_ hy7  kn (H.sub .slnil (.cons _ .slnil) .slnil)
 intro σ S  hk H; replace h := hOy7
 refine J_ hk <| U_ <| C_ <| Y_ <| U_ <| C_ <| I_ <| B_ <| us 1 rfl ?_
 obtain ⟨y8, hy8, h⟩ := Xaf h
 refine Cl (.str y8) [(.int .i64 y7.1)] rfl rfl (s51 _ hy8 rfl) <| us 2 rfl <| A_ ?_
 rcases Xa1 h with ⟨hc9, h⟩ | ⟨hc9, h⟩
 refine F_ rfl hc9 <| B_ <| us 2 rfl <| A_ <| Q_ <| H_ ?_
 cases oi h
 refine Z_ (vs := [(.int .i64 0), (.bool false)]) (T_ rfl (T_ rfl Xas)) (L_ rfl (L_ rfl rfl)) ?_
 exact rfl
 refine G_ rfl hc9 <| M_ <| C_ <| B_ <| us 3 rfl <| A_ <| Q_ ?_
 cases oi h
 refine Z_ (vs := [(.int .i64 y7.1), (.bool true)]) (T_ rfl (T_ rfl Xas)) (L_ rfl (L_ rfl rfl)) ?_
 exact rfl
def F95 (k : Nat) (a0 : Xab) : Option Int :=
 (Xoi k a0.Body).bind fun y2 =>
 if ((!y2.2) || (decide (y2.1 < 0))) || (decide (y2.1 > 2147483647)) then
 some (-1)
 else
 some y2.1
theorem s95 : ∀ k : Nat, ∀ {a0 : Xab} {r : Int}, F95 k a0 = some r → Q 95 [(.agg (Xaa a0))] (.int .i64 r) := by
 intro k a0 r h
 unfold F95 at h
 refine Qg (pf := Xvm) rfl cq rfl fun H => ?_
 refine B_ <| Wb H rfl ?_
 intro i1 S hi1 H
 refine us 1 rfl <| A_ <| B_ <| us 1 rfl <| Wg H 0 rfl ?_
 obtain ⟨y2, hy2, h⟩ := Xaf h
 refine Cl (.tup [(.int .i64 y2.1), (.bool y2.2)]) [(.str a0.Body)] rfl rfl (s109 _ hy2 rfl) <| us 5 rfl <| A_ <| I_ <| B_ <| us 1 rfl <| w (.bool (!y2.2)) rfl rfl <| w (.bool (!y2.2)) rfl rfl ?_
 refine O_ 3 (SH H [(3, (.int .i64 y2.1)), (16, (.bool ((!y2.2) || (decide (y2.1 < 0)))))]) ?_ ?_
 revert H
 cases hc3 : (!y2.2)
 intro H
 refine us 3 rfl <| A_ ?_
 exact kf H
 intro H
 refine us 3 rfl <| A_ ?_
 exact kf H
 rintro σ S e ⟨hk, H, rfl⟩
 refine E_ hk <| w (.bool ((!y2.2) || (decide (y2.1 < 0)))) rfl rfl ?_
 refine O_ 3 (SH H [(3, (.int .i64 y2.1)), (20, (.bool (((!y2.2) || (decide (y2.1 < 0))) || (decide (y2.1 > 2147483647)))))]) ?_ ?_
 revert H
 cases hc4 : ((!y2.2) || (decide (y2.1 < 0)))
 intro H
 refine us 3 rfl <| A_ ?_
 exact kf H
 intro H
 refine us 3 rfl <| A_ ?_
 exact kf H
 rintro σ S e ⟨hk, H, rfl⟩
 refine E_ hk <| A_ ?_
 rcases Xa1 h with ⟨hc6, h⟩ | ⟨hc6, h⟩
 refine F_ rfl hc6 <| B_ <| us 1 rfl <| A_ <| Q_ <| H_ ?_
 cases oi h
 exact Kr (.int .i64 (-1)) rfl rfl
 refine G_ rfl hc6 <| M_ <| C_ <| B_ <| us 2 rfl <| A_ <| Q_ ?_
 cases oi h
 exact Kr (.int .i64 y2.1) rfl rfl
def Xfl (k : Nat) (a0 : Int) : Nat → Int → Option (Out (Int × Int) Int)
 | 0, _ => none
 | n + 1, x1 =>
  if decide (x1 ≤ 10) then
  (if x1 != 9 then
  (F18 k x1 0).bind fun y2 =>
  some (y2 == a0)
  else
  some false).bind fun y3 =>
  if y3 then
  some (Out.ret (x1, 0))
  else
  Xfl k a0 n (ad .i64 x1 1)
  else
  some (Out.brk x1)
def Xfm (k : Nat) (a0 : Int) : Nat → Int → Option (Out (Int × Int) Int)
 | 0, _ => none
 | n + 1, x1 =>
  if decide (x1 ≤ 8) then
  (F18 k 9 x1).bind fun y2 =>
  if y2 == a0 then
  some (Out.ret (9, x1))
  else
  Xfm k a0 n (ad .i64 x1 1)
  else
  some (Out.brk x1)
def F96 (k : Nat) (a0 : Int) : Option (Int × Int) :=
 (Xfl k a0 k 1).bind fun y1 =>
 match y1 with
 | .ret y1r => some (y1r.1, y1r.2)
 | .brk y1b =>
 (Xfm k a0 k 1).bind fun y2 =>
 match y2 with
 | .ret y2r => some (y2r.1, y2r.2)
 | .brk y2b =>
 some (0, 0)
theorem XsQ {k : Nat} {a1 : Int} {S0 : List SObj} {R : List Nat} {K : KX}  {o : Out (Int × Int) Int}
  (hret : ∀ r : Int × Int, o = .ret r → EK [(2, (.int .i64 r.1)), (3, (.int .i64 r.2))] S0 R [] [] [] (K .ret))
  (hbrk : ∀ y : Int, o = .brk y → EK [(0, (.int .u8 a1))] S0 R [] [] [] (K (.exit 0))) :
  ∀ {n : Nat} {x2 : Int}, Xfl k a1 n x2 = some o → ∀ {σ : Nat → PV} {S : List SObj}, Xa2 [(0, (.int .u8 a1)), (4, (.int .i64 x2))] σ → Hp S0 R S [] [] [] → WC env ⟨28, S0.length⟩ (.loop XqN) σ S false K := by
 intro n
 induction n with
 | zero => intro _ h; cases h
 | succ n ih =>
  intro x2 h σ S  hk H
  rw [Xfl] at h
  refine b_ <| X_ hk <| I_ <| B_ <| us 2 rfl <| A_ ?_
  rcases Xa1 h with ⟨hc3, h⟩ | ⟨hc3, h⟩
  refine F_ rfl hc3 <| M_ <| C_ <| I_ <| R_ <| B_ <| us 1 rfl <| w (.bool (x2 != 9)) rfl rfl <| w (.bool (x2 != 9)) rfl rfl ?_
  obtain ⟨y4, hy4, hOy4⟩ := Xaf h
  refine O_ 5 (SJ [(0, (.int .u8 a1)), (4, (.int .i64 x2)), (17, (.bool y4))] S0 R [] [] [] false) ?_ ?_
  replace h := hy4
  revert H
  cases hc5 : (x2 != 9)
  intro H
  replace h := Xc5 h hc5
  refine us 5 rfl <| A_ ?_
  cases oi h
  exact kh H
  intro H
  replace h := Xc4 h hc5
  refine us 1 rfl <| N_ rfl rfl ?_
  obtain ⟨y6, hy6, h⟩ := Xaf h
  refine Cl (.int .u8 y6) [(.int .i64 x2), (.int .i64 0)] rfl rfl (s18 _ hy6 rfl) <| us 3 rfl <| A_ ?_
  cases oi h
  exact kh H
  rintro σ S e ⟨hk, H, rfl⟩
  replace h := hOy4
  refine E_ hk <| A_ ?_
  rcases Xa1 h with ⟨hc7, h⟩ | ⟨hc7, h⟩
  refine F_ rfl hc7 <| B_ <| us 3 rfl <| A_ <| Q_ <| P_ <| H_ <| H_ ?_
  cases oi h
  exact hret _ rfl kn (hs H)
  refine G_ rfl hc7 <| M_ <| V_ <| C_ <| S_ <| us 3 rfl <| A_ <| C_ ?_
  exact ih h  kn (hs H)
  refine G_ rfl hc3 <| Y_ <| K_ <| K_ ?_
  cases oi h
  exact hbrk _ rfl  kn (hs H)
theorem XsR {k : Nat} {a1 : Int} {S0 : List SObj} {R : List Nat} {K : KX}  {o : Out (Int × Int) Int}
  (hret : ∀ r : Int × Int, o = .ret r → EK [(2, (.int .i64 r.1)), (3, (.int .i64 r.2))] S0 R [] [] [] (K .ret))
  (hbrk : ∀ y : Int, o = .brk y → EK [] S0 R [] [] [] (K (.exit 2))) :
  ∀ {n : Nat} {x2 : Int}, Xfm k a1 n x2 = some o → ∀ {σ : Nat → PV} {S : List SObj}, Xa2 [(0, (.int .u8 a1)), (5, (.int .i64 x2))] σ → Hp S0 R S [] [] [] → WC env ⟨28, S0.length⟩ (.loop XqO) σ S false K := by
 intro n
 induction n with
 | zero => intro _ h; cases h
 | succ n ih =>
  intro x2 h σ S  hk H
  rw [Xfm] at h
  refine b_ <| X_ hk <| I_ <| B_ <| us 2 rfl <| A_ ?_
  rcases Xa1 h with ⟨hc3, h⟩ | ⟨hc3, h⟩
  refine F_ rfl hc3 <| M_ <| C_ <| I_ <| R_ <| B_ <| us 1 rfl ?_
  obtain ⟨y4, hy4, h⟩ := Xaf h
  refine Cl (.int .u8 y4) [(.int .i64 9), (.int .i64 x2)] rfl rfl (s18 _ hy4 rfl) <| us 2 rfl <| A_ ?_
  rcases Xa1 h with ⟨hc5, h⟩ | ⟨hc5, h⟩
  refine F_ rfl hc5 <| B_ <| us 3 rfl <| A_ <| Q_ <| P_ <| H_ <| H_ ?_
  cases oi h
  exact hret _ rfl kn (hs H)
  refine G_ rfl hc5 <| M_ <| V_ <| C_ <| S_ <| us 3 rfl <| A_ <| C_ ?_
  exact ih h  kn (hs H)
  refine G_ rfl hc3 <| Y_ <| K_ <| K_ ?_
  cases oi h
  exact hbrk _ rfl  m_ (hs H)
theorem s96 : ∀ k : Nat, ∀ {a0 : Int} {r : Int × Int}, F96 k a0 = some r → Q 96 [(.int .u8 a0)] (.tup [(.int .i64 r.1), (.int .i64 r.2)]) := by
 intro k a0 r h
 unfold F96 at h
 refine Qg (pf := Xvn) rfl rfl rfl fun H => ?_
 refine B_ <| us 2 rfl <| A_ <| I_ <| B_ <| us 1 rfl <| A_ ?_
 obtain ⟨y1, hy1, hOy1⟩ := Xaf h
 refine R_ ?_
 refine XsQ ?_ ?_ hy1  kn (hs H)
 intro y1r he σ S  hk H; subst he; replace h := hOy1; dsimp only at h
 refine J_ hk <| P_ <| H_ ?_
 cases oi h
 refine Z_ (vs := [(.int .i64 y1r.1), (.int .i64 y1r.2)]) (T_ rfl (T_ rfl Xas)) (L_ rfl (L_ rfl rfl)) ?_
 exact rfl
 intro y1b he σ S  hk H; subst he; replace h := hOy1; dsimp only at h
 refine J_ hk <| U_ <| C_ <| I_ <| B_ <| us 1 rfl <| A_ ?_
 obtain ⟨y2, hy2, hOy2⟩ := Xaf h
 refine R_ ?_
 refine XsR ?_ ?_ hy2  kn (hs H)
 intro y2r he σ S  hk H; subst he; replace h := hOy2; dsimp only at h
 refine J_ hk <| P_ <| H_ ?_
 cases oi h
 refine Z_ (vs := [(.int .i64 y2r.1), (.int .i64 y2r.2)]) (T_ rfl (T_ rfl Xas)) (L_ rfl (L_ rfl rfl)) ?_
 exact rfl
 intro y2b he σ S  hk H; subst he; replace h := hOy2; dsimp only at h
 refine J_ hk <| U_ <| C_ <| B_ <| us 2 rfl <| A_ <| Q_ ?_
 cases oi h
 refine Z_ (vs := [(.int .i64 0), (.int .i64 0)]) (T_ rfl (T_ rfl Xas)) (L_ rfl (L_ rfl rfl)) ?_
 exact rfl
def Xgv (k : Nat) (a0 : Sl Xab) (a1 : Int) : Nat → (Sl Str) → Int → Option ((Sl Str) × Int)
 | 0, _, _ => none
 | n + 1, x2, x3 =>
  if decide (x3 < a1) then
  (Sl.at? a0 x3).bind fun y4 =>
  (Sl.app? 16 x2 (Sl.l (some [y4.Body]))).bind fun z5 =>
  Xgv k a0 a1 n z5 (ad .i64 x3 1)
  else
  some (x2, x3)
def F97 (k : Nat) (a0 : Xab) : Option (Sl Str) :=
 (Xgv k a0.Kids (Sl.len a0.Kids) k none 0).bind fun y1 =>
 some y1.1
theorem XsS {k : Nat} {a1 : Sl Xab} {a2 : Int} {S0 : List SObj} {R : List Nat} {K : KX}  {o : ((Sl Str) × Int)}
  (hbrk : ∀ {σ' : Nat → PV} {S' : List SObj}, ∀ (v3 : PV) (_ : Xa8 eS o.1 v3), Xa2 [(3, v3)] σ' → Hp S0 R S' [] [(v3, 1)] [] → K (.exit 0) σ' S' false) :
  ∀ {n : Nat} {x4 : Sl Str} {x5 : Int}, Xgv k a1 a2 n x4 x5 = some o → ∀ {σ : Nat → PV} {S : List SObj}, ∀ (v6 : PV) (_ : Xa8 eS x4 v6), Xa2 [(3, v6), (7, (Xar Xac a1)), (8, (.int .i64 a2)), (9, (.int .i64 x5))] σ → Hp S0 R S [] [(v6, 1)] [] → WC env ⟨20, S0.length⟩ (.loop XqR) σ S false K := by
 intro n
 induction n with
 | zero => intro _ _ h; cases h
 | succ n ih =>
  intro x4 x5 h σ S v6 hv6 hk H
  rw [Xgv] at h
  refine b_ <| X_ hk <| B_ <| us 1 rfl <| A_ <| I_ ?_
  rcases Xa1 h with ⟨hc7, h⟩ | ⟨hc7, h⟩
  refine F_ rfl hc7 <| M_ <| C_ <| I_ <| R_ <| B_ ?_
  obtain ⟨y8, hy8, h⟩ := Xaf h
  refine Wx hy8 (XaD _) rfl <| us 1 rfl <| Wa (ti := XbA) H rfl ?_
  intro i10 S hi10 H
  refine Ws 0 H hi10 rfl ?_
  intro S H
  refine A_ <| S_ <| w v6 rfl rfl <| us 1 rfl <| Wg H 0 rfl <| WS rfl (nz rfl (Xaj (ys := [y8.Body]) (f := eS) (parts := [(0, (.str y8.Body))]) rfl rfl rfl rfl rfl rfl (fc ⟨rfl, rfl⟩ (fun p hp => nomatch hp)) rfl)) ?_
  have hv11 : Xa8 eS (some [y8.Body]) _ := ⟨.full, rfl⟩
  obtain ⟨z12, hz12, h⟩ := Xaf h
  refine WO.ex rfl (nzx (Xaw hv11.frz rfl) (Xb0 (f := eS) (ei := ty9) H 0 rfl rfl hv6 rfl hv11 rfl rfl rfl rfl (fun _ => rfl) hz12)) ?_
  rintro v13 S ⟨hv13, H⟩
  refine w v13 rfl rfl <| A_ <| V_ <| C_ <| S_ <| us 2 rfl <| A_ <| C_ ?_
  exact ih h v13 (hv13) kn (H.sub (.cons _ .slnil) (.cons_cons _ .slnil) .slnil)
  refine G_ rfl hc7 <| Y_ <| K_ <| K_ ?_
  cases oi h
  exact hbrk v6 (hv6) kn (hs H)
theorem s97 : ∀ k : Nat, ∀ {a0 : Xab} {r : (Sl Str)}, F97 k a0 = some r → Q 97 [(.agg (Xaa a0))] (Xar eS r) := by
 intro k a0 r h vs ha S
 unfold F97 at h
 refine e_ (pf := XtB) rfl rfl ha (D_ rfl) cq cq ?_
 refine o_ (pf := XtB) rfl ?_
 have H := g_ []
 refine B_ <| Wb H rfl ?_
 intro i1 S hi1 H
 refine us 1 rfl <| A_ <| B_ <| us 1 rfl <| A_ <| I_ <| B_ <| us 1 rfl <| Wg H 0 rfl <| Wl rfl <| us 1 rfl <| A_ ?_
 obtain ⟨y2, hy2, hOy2⟩ := Xaf h
 refine R_ ?_
 have H := H.addNil 1
 refine XsS ?_ hy2 .nils ((Xam _)) kn (H.sub (.cons _ .slnil) (.cons_cons _ .slnil) .slnil)
 intro σ S v3 hv3 hk H; replace h := hOy2
 refine J_ hk <| U_ <| C_ <| B_ <| w v3 rfl rfl <| w v3 rfl rfl <| A_ <| Q_ ?_
 cases oi h
 refine Z_ (vs := [v3]) (T_ rfl Xas) (L_ hv3.frz rfl) ?_
 exact (by simp only [Xa7, List.map_cons, List.map_nil, Xal, hv3.strip])
def XcY (k : Nat) (a0 : Sl Xab) (a1 : Int) : Nat → Str → Int → (Sl Str) → Option (Str × Int × (Sl Str))
 | 0, _, _, _ => none
 | n + 1, x2, x3, w4 =>
  if decide (x3 < a1) then
  (Sl.at? a0 x3).bind fun y5 =>
  (if (y5.Tag == 128) && (x3 == 0) then
  (Sl.at? w4 0).bind fun y6 =>
  some (Sl.set w4 0 y5.Body, x2)
  else
  (if y5.Tag == 130 then
  some (w4, y5.Body)
  else
  (Sl.app? 16 w4 (Sl.l (some [y5.Body]))).bind fun z7 =>
  some (z7, x2)).bind fun y8 =>
  some (y8.1, y8.2)).bind fun y9 =>
  XcY k a0 a1 n y9.2 (ad .i64 x3 1) y9.1
  else
  some (x2, x3, w4)
def XlO (k : Nat) (a0 : Xab) : Option (Sl Str) :=
 (XcY k a0.Kids (Sl.len a0.Kids) k [] 0 (some [[]])).bind fun y1 =>
 (Sl.app? 16 y1.2.2 (Sl.l (some [y1.1]))).bind fun z2 =>
 some z2
theorem Xok {k : Nat} {a1 : Sl Xab} {a2 : Int} {S0 : List SObj} {R : List Nat} {K : KX}  {o : (Str × Int × (Sl Str))}
  (hbrk : ∀ {σ' : Nat → PV} {S' : List SObj}, ∀ (v3 : PV) (_ : IsW o.2.2 v3), Xa2 [(3, v3), (4, (.str o.1))] σ' → Hp S0 R S' [] [] [(v3, Xeo eS 1 false o.2.2)] → K (.exit 0) σ' S' false) :
  ∀ {n : Nat} {x4 : Str} {x5 : Int} {w6 : Sl Str}, XcY k a1 a2 n x4 x5 w6 = some o → ∀ {σ : Nat → PV} {S : List SObj}, ∀ (v7 : PV) (_ : IsW w6 v7), Xa2 [(3, v7), (4, (.str x4)), (9, (Xar Xac a1)), (10, (.int .i64 a2)), (11, (.int .i64 x5))] σ → Hp S0 R S [] [] [(v7, Xeo eS 1 false w6)] → WC env ⟨44, S0.length⟩ (.loop Xn8) σ S false K := by
 intro n
 induction n with
 | zero => intro _ _ _ h; cases h
 | succ n ih =>
  intro x4 x5 w6 h σ S v7 hv7 hk H
  rw [XcY] at h
  refine b_ <| X_ hk <| B_ <| us 1 rfl <| A_ <| I_ ?_
  rcases Xa1 h with ⟨hc8, h⟩ | ⟨hc8, h⟩
  refine F_ rfl hc8 <| M_ <| C_ <| I_ <| R_ <| B_ <| us 1 rfl ?_
  obtain ⟨y10, hy10, h⟩ := Xaf h
  refine Wx hy10 (XaD _) rfl <| us 1 rfl <| Wa (ti := XbA) H rfl ?_
  intro i11 S hi11 H
  refine us 1 rfl <| Ws 0 H hi11 rfl ?_
  intro S H
  refine A_ <| R_ <| B_ <| us 1 rfl <| Wg H 0 rfl <| w (.bool (y10.Tag == 128)) rfl rfl <| w (.bool (y10.Tag == 128)) rfl rfl ?_
  refine O_ 3 (SH H [(3, v7), (4, (.str x4)), (6, (.ptr i11 0)), (9, (Xar Xac a1)), (10, (.int .i64 a2)), (11, (.int .i64 x5)), (28, (.bool ((y10.Tag == 128) && (x5 == 0))))]) ?_ ?_
  revert H
  cases hc12 : (y10.Tag == 128)
  intro H
  refine us 3 rfl <| A_ ?_
  exact kf H
  intro H
  refine us 3 rfl <| A_ ?_
  exact kf H
  rintro σ S e ⟨hk, H, rfl⟩
  refine E_ hk <| us 1 rfl <| A_ ?_
  obtain ⟨y13, hy13, hOy13⟩ := Xaf h
  refine a_ (fun σ' S' e' => ∃ v14, IsW y13.1 v14 ∧ Xa2 ([(3, v14), (4, (.str y13.2)), (9, (Xar Xac a1)), (10, (.int .i64 a2)), (11, (.int .i64 x5))]) σ' ∧ Hp S0 R S' [(i11, .cells (Xaa y10))] [] [(v14, Xeo eS 1 false y13.1)] ∧ e' = false) ?_ ?_
  replace h := hy13
  rcases Xa1 h with ⟨hc15, h⟩ | ⟨hc15, h⟩
  refine F_ rfl hc15 <| S_ <| w v7 rfl rfl <| us 1 rfl <| Wg H 0 rfl ?_
  obtain ⟨y16, hy16, h⟩ := Xaf h
  obtain ⟨i17, hi17⟩ := IsW.id hv7 hy16
  refine w (.ptr i17 (Int.toNat 0 * 1 + 0)) rfl (nz rfl (Xhv (sz := 1) rfl hv7 rfl rfl rfl hy16 hi17)) <| WO.storeW 0 (f := eS) (u := (.str y10.Body)) (y' := y10.Body) (xc := [(.str y10.Body)]) (e' := false) rfl rfl H rfl hi17 rfl rfl hy16 rfl rfl rfl rfl (D_ rfl) (D_ rfl) rfl (XiQ rfl) ?_
  intro S H
  have hw18 := IsW.set hv7 0 y10.Body
  refine A_ <| C_ ?_
  cases oi h
  exact ⟨v7, hw18, kn, (hs H), rfl⟩
  refine G_ rfl hc15 <| B_ <| us 1 rfl <| Wg H 0 rfl <| us 2 rfl <| A_ ?_
  obtain ⟨y19, hy19, hOy19⟩ := Xaf h
  refine a_ (fun σ' S' e' => ∃ v20, IsW y19.1 v20 ∧ Xa2 ([(3, v20), (4, (.str y19.2)), (9, (Xar Xac a1)), (10, (.int .i64 a2)), (11, (.int .i64 x5))]) σ' ∧ Hp S0 R S' [(i11, .cells (Xaa y10))] [] [(v20, Xeo eS 1 false y19.1)] ∧ e' = false) ?_ ?_
  replace h := hy19
  rcases Xa1 h with ⟨hc21, h⟩ | ⟨hc21, h⟩
  refine F_ rfl hc21 <| S_ <| us 1 rfl <| Wg H 0 rfl <| us 1 rfl <| A_ <| C_ ?_
  cases oi h
  exact ⟨v7, hv7, kn, (hs H), rfl⟩
  refine G_ rfl hc21 <| S_ <| w v7 rfl rfl <| us 1 rfl <| Wg H 0 rfl <| WS rfl (nz rfl (Xaj (ys := [y10.Body]) (f := eS) (parts := [(0, (.str y10.Body))]) rfl rfl rfl rfl rfl rfl (fc ⟨rfl, rfl⟩ (fun p hp => nomatch hp)) rfl)) ?_
  have hv22 : Xa8 eS (some [y10.Body]) _ := ⟨.full, rfl⟩
  obtain ⟨z23, hz23, h⟩ := Xaf h
  refine WO.ex rfl (bzn (Xaw hv22.frz rfl) (Xju (f := eS) (ei := ty9) H 0 rfl rfl hv7 rfl hv22 rfl rfl rfl rfl (fun _ => rfl) hz23)) ?_
  rintro v24 S ⟨hv24, H⟩
  refine w v24 rfl rfl <| A_ <| C_ ?_
  cases oi h
  exact ⟨v24, hv24, kn, (hs H), rfl⟩
  rintro σ S e ⟨v20, hv20, hk, H, rfl⟩
  replace h := hOy19
  refine J_ hk <| C_ ?_
  cases oi h
  exact ⟨v20, hv20, kn, (hs H), rfl⟩
  rintro σ S e ⟨v14, hv14, hk, H, rfl⟩
  replace h := hOy13
  refine J_ hk <| V_ <| V_ <| C_ <| S_ <| us 2 rfl <| A_ <| C_ ?_
  exact ih h v14 (hv14) kn (H.sub (.cons _ .slnil) .slnil (.cons_cons _ .slnil))
  refine G_ rfl hc8 <| Y_ <| K_ <| K_ ?_
  cases oi h
  exact hbrk v7 (hv7) kn (hs H)
theorem s110 : ∀ k : Nat, ∀ {a0 : Xab} {r : (Sl Str)}, XlO k a0 = some r → Q 110 [(.agg (Xaa a0))] (Xar eS r) := by
 intro k a0 r h vs ha S
 unfold XlO at h
 refine e_ (pf := XlM) rfl rfl ha (D_ rfl) cq cq ?_
 refine o_ (pf := XlM) rfl ?_
 have H := g_ []
 refine B_ <| Wb H rfl ?_
 intro i1 S hi1 H
 refine us 1 rfl <| A_ <| B_ <| WO.ex rfl (bzn rfl (Xkg (f := eS) (ei := ty9) (Xaj (fr := ⟨0, 0⟩) (ys := [[]]) (f := eS) (parts := [(0, (.str []))]) rfl rfl rfl rfl rfl rfl (fc ⟨rfl, rfl⟩ (fun p hp => nomatch hp)) rfl) rfl rfl H)) ?_
 rintro v2 S ⟨hv2, H⟩
 refine w v2 rfl rfl <| A_ <| B_ <| us 1 rfl <| A_ <| I_ <| B_ <| us 1 rfl <| Wg H 0 rfl <| Wl rfl <| us 1 rfl <| A_ ?_
 obtain ⟨y3, hy3, hOy3⟩ := Xaf h
 refine R_ ?_
 refine Xok ?_ hy3 v2 (hv2) kn (H.sub (.cons _ .slnil) .slnil (.cons_cons _ .slnil))
 intro σ S v4 hv4 hk H; replace h := hOy3
 refine J_ hk <| U_ <| C_ <| B_ <| w v4 rfl rfl <| us 1 rfl <| WS rfl (nz rfl (Xaj (ys := [y3.1]) (f := eS) (parts := [(0, (.str y3.1))]) rfl rfl rfl rfl rfl rfl (fc ⟨rfl, rfl⟩ (fun p hp => nomatch hp)) rfl)) ?_
 have hv5 : Xa8 eS (some [y3.1]) _ := ⟨.full, rfl⟩
 obtain ⟨z6, hz6, h⟩ := Xaf h
 refine WO.ex rfl (bzn (Xaw hv5.frz rfl) (Xju (f := eS) (ei := ty9) H 0 rfl rfl hv4 rfl hv5 rfl rfl rfl rfl (fun _ => rfl) hz6)) ?_
 rintro v7 S ⟨hv7, H⟩
 refine w v7 rfl rfl <| A_ <| Q_ ?_
 cases oi h
 obtain ⟨S, q8, H⟩ := IsW.frz (f := eS) H 0 rfl hv7
 refine KB.retZ (vs := [v7]) (T_ rfl Xas) (fl_W q8 rfl) ?_
 exact (by simp only [Xa7, List.map_cons, List.map_nil, Xal, XbS])
def Xc6 (rc0 : Xab → Int → Option Xae) (k : Nat) (a1 : Int) (a2 : Sl Xab) (a3 : Int) (a4 : Xae) : Nat → Int → Xae → Option (Int × Xae)
 | 0, _, _ => none
 | n + 1, x5, b6 =>
  if decide (x5 < a3) then
  (Sl.at? a2 x5).bind fun y7 =>
  (rc0 y7 (sb .i64 a1 1)).bind fun y8 =>
  (Sl.app? 88 b6.Kids (Sl.l (some [y8]))).bind fun z9 =>
  Xc6 rc0 k a1 a2 a3 a4 n (ad .i64 x5 1) (Xae.mk b6.Kind b6.Attr b6.Value b6.Subs z9)
  else
  some (x5, b6)
def F98 : Nat → Xab → Int → Option Xae
 | 0, _, _ => none
 | k + 1, a0, a1 =>
  if a0.Tag == 135 then
  some (Xae.mk 7 a0.Body [] none none)
  else
  if ((decide (a0.Tag < 160)) || (decide (a0.Tag > 166))) || (a1 == 0) then
  some (Xae.mk 0 [] [] none none)
  else
  (Sl.at? (some [1, 2, 3, 4, 8, 5, 6, 0]) (sb .u8 a0.Tag 160)).bind fun y9 =>
  (if y9 == 1 then
  some (y9 == 1)
  else
  (if y9 == 2 then
  some (y9 == 2)
  else
  some (y9 == 3)).bind fun y2 =>
  some y2).bind fun y3 =>
  (if y3 then
  (Xc6 (F98 k) k a1 a0.Kids (Sl.len a0.Kids) (Xae.mk 0 [] [] none none) k 0 (Xae.mk y9 [] [] none none)).bind fun y4 =>
  some y4.2
  else
  (if y9 == 8 then
  (F94 k a0 0).bind fun y5 =>
  (F94 k a0 1).bind fun y6 =>
  (XlO k y6).bind fun y7 =>
  some (Xae.mk y9 y5.Body [] y7 none)
  else
  (F94 k a0 0).bind fun y8 =>
  (F94 k a0 1).bind fun y10 =>
  some (Xae.mk y9 y8.Body y10.Body none none)).bind fun y11 =>
  some y11).bind fun y12 =>
  some y12
theorem XsT {rc0 : Xab → Int → Option Xae} (hrc0 : ∀ {a0 : Xab} {a1 : Int} {r : Xae}, rc0 a0 a1 = some r → Q 98 [(.agg (Xaa a0)), (.int .i64 a1)] (.agg (Xag r))) {k : Nat} {a4 : Int} {a5 : Sl Xab} {a6 : Int} {a7 : Xae} {S0 : List SObj} {R : List Nat} {K : KX} {i3 : Nat} {i2 : Nat} (hi3 : S0.length ≤ i3) (hi2 : S0.length ≤ i2)  {o : (Int × Xae)}
  (hbrk : ∀ {σ' : Nat → PV} {S' : List SObj}, ∀ (v8 : PV) (_ : Xa8 eS o.2.Subs v8), ∀ (v9 : PV) (_ : Xa8 Xan o.2.Kids v9), Xa2 [(4, (.ptr i2 0)), (5, (.ptr i3 0))] σ' → Hp S0 R S' [(i3, .cells (XbJ o.2 v8 v9)), (i2, .cells (XbJ a7 .nils .nils))] [(v9, 5)] [] → K (.exit 1) σ' S' false) :
  ∀ {n : Nat} {x10 : Int} {b11 : Xae}, Xc6 rc0 k a4 a5 a6 a7 n x10 b11 = some o → ∀ {σ : Nat → PV} {S : List SObj}, ∀ (v12 : PV) (_ : Xa8 eS b11.Subs v12), ∀ (v13 : PV) (_ : Xa8 Xan b11.Kids v13), Xa2 [(1, (.int .i64 a4)), (4, (.ptr i2 0)), (5, (.ptr i3 0)), (51, (Xar Xac a5)), (52, (.int .i64 a6)), (53, (.int .i64 x10))] σ → Hp S0 R S [(i3, .cells (XbJ b11 v12 v13)), (i2, .cells (XbJ a7 .nils .nils))] [(v13, 5)] [] → WC env ⟨78, S0.length⟩ (.loop XqU) σ S false K := by
 intro n
 induction n with
 | zero => intro _ _ h; cases h
 | succ n ih =>
  intro x10 b11 h σ S v12 hv12 v13 hv13 hk H
  rw [Xc6] at h
  refine b_ <| X_ hk <| B_ <| us 1 rfl <| A_ <| I_ ?_
  rcases Xa1 h with ⟨hc14, h⟩ | ⟨hc14, h⟩
  refine F_ rfl hc14 <| M_ <| C_ <| I_ <| R_ <| B_ ?_
  obtain ⟨y15, hy15, h⟩ := Xaf h
  refine Wx hy15 (XaD _) rfl <| us 1 rfl <| Wa (ti := XbA) H rfl ?_
  intro i16 S hi16 H
  refine Ws 0 H hi16 rfl ?_
  intro S H
  refine A_ <| h_ <| wh _ rfl rfl <| Wgh H 1 rfl <| Wgh H 0 rfl <| wh _ rfl rfl <| wh _ rfl rfl ?_
  obtain ⟨y17, hy17, h⟩ := Xaf h
  refine Clh (.agg (Xag y17)) [(.agg (Xaa y15)), (.int .i64 (sb .i64 a4 1))] rfl rfl (sv (hrc0 hy17)) <| k_ rfl (nz rfl (Xaj (ys := [y17]) (f := Xan) (parts := [(0, (.agg (Xag y17)))]) rfl rfl rfl rfl rfl (by simp only [Xax, List.map_cons, List.map_nil, Xap, Xaq, Xai, Xbo, Xal]) (fc ⟨rfl, rfl⟩ (fun p hp => nomatch hp)) rfl)) rfl rfl ?_
  have hv18 : Xa8 Xan (some [y17]) _ := ⟨.full, rfl⟩
  refine f_ ?_
  obtain ⟨z19, hz19, h⟩ := Xaf h
  refine WO.ex rfl (nzx (Xaw hv18.frz rfl) (Xb0 (f := Xan) (ei := Xlo) H 0 rfl rfl hv13 rfl hv18 rfl rfl rfl rfl (fun a => (Xdx a).2.1) hz19)) ?_
  rintro v20 S ⟨hv20, H⟩
  refine us 1 rfl <| WO.store 1 rfl (Xaw hv20.frz rfl) H rfl rfl rfl rfl hv20.one.1 hv20.one.2 rfl (D_ rfl) rfl (XeQ hi3) ?_
  intro S H
  refine A_ <| V_ <| C_ <| S_ <| us 2 rfl <| A_ <| C_ ?_
  exact ih h v12 (hv12) v20 (hv20) kn (H.sub (.cons _ (.cons_cons _ (.cons_cons _ .slnil))) (.cons_cons _ .slnil) .slnil)
  refine G_ rfl hc14 <| Y_ <| K_ <| K_ ?_
  cases oi h
  exact hbrk v12 (hv12) v13 (hv13) kn (hs H)
theorem s98 : ∀ k : Nat, ∀ {a0 : Xab} {a1 : Int} {r : Xae}, F98 k a0 a1 = some r → Q 98 [(.agg (Xaa a0)), (.int .i64 a1)] (.agg (Xag r)) := by
 intro k
 induction k with
 | zero => intro _ _ r h; cases h
 | succ k ih =>
  intro a0 a1 r h vs ha S
  rw [F98] at h
  refine e_ (pf := XtC) rfl rfl ha (D_ rfl) cq cq ?_
  refine o_ (pf := XtC) rfl ?_
  have H := g_ []
  refine B_ <| Wb H rfl ?_
  intro i1 S hi1 H
  refine Wa (ti := Xlo) H rfl ?_
  intro i2 S hi2 H
  refine A_ <| B_ <| w (.agg [(.int .i64 0), (.str []), (.str []), .nils, .nils]) rfl (nz rfl (XaH (ti := Xlo) rfl rfl rfl rfl rfl rfl)) <| Wa (ti := Xlo) H rfl ?_
  intro i3 S hi3 H
  refine Ws 0 H hi3 rfl ?_
  intro S H
  refine A_ <| B_ <| w (.agg XoD) rfl (nz rfl (Xcx (ti := XlE) (ei := ty3) rfl rfl rfl rfl rfl (Xav (cells' := [(.int .i64 1), (.int .i64 0), (.int .i64 0), (.int .i64 0), (.int .i64 0), (.int .i64 0), (.int .i64 0), (.int .i64 0)]) rfl rfl rfl rfl (D_ rfl) rfl (Xav (cells' := [(.int .i64 1), (.int .i64 2), (.int .i64 0), (.int .i64 0), (.int .i64 0), (.int .i64 0), (.int .i64 0), (.int .i64 0)]) rfl rfl rfl rfl (D_ rfl) rfl (Xav (cells' := [(.int .i64 1), (.int .i64 2), (.int .i64 3), (.int .i64 0), (.int .i64 0), (.int .i64 0), (.int .i64 0), (.int .i64 0)]) rfl rfl rfl rfl (D_ rfl) rfl (Xav (cells' := [(.int .i64 1), (.int .i64 2), (.int .i64 3), (.int .i64 4), (.int .i64 0), (.int .i64 0), (.int .i64 0), (.int .i64 0)]) rfl rfl rfl rfl (D_ rfl) rfl (Xav (cells' := [(.int .i64 1), (.int .i64 2), (.int .i64 3), (.int .i64 4), (.int .i64 8), (.int .i64 0), (.int .i64 0), (.int .i64 0)]) rfl rfl rfl rfl (D_ rfl) rfl (Xav (cells' := [(.int .i64 1), (.int .i64 2), (.int .i64 3), (.int .i64 4), (.int .i64 8), (.int .i64 5), (.int .i64 0), (.int .i64 0)]) rfl rfl rfl rfl (D_ rfl) rfl (Xav (cells' := XoD) rfl rfl rfl rfl (D_ rfl) rfl (Xav (cells' := XoD) rfl rfl rfl rfl (D_ rfl) rfl rfl)))))))))) <| Wa (ti := XlE) H rfl ?_
  intro i4 S hi4 H
  refine Ws 0 H hi4 rfl ?_
  intro S H
  refine A_ <| I_ <| B_ <| us 1 rfl <| Wg H 3 rfl <| us 1 rfl <| A_ ?_
  rcases Xa1 h with ⟨hc5, h⟩ | ⟨hc5, h⟩
  refine F_ rfl hc5 <| B_ <| us 1 rfl <| Wg H 3 rfl <| w (.agg [(.int .i64 7), (.str a0.Body), (.str []), .nils, .nils]) rfl (nz rfl (XaH (ti := Xlo) rfl rfl rfl rfl rfl (Xav rfl rfl rfl rfl (D_ rfl) rfl (Xav rfl rfl rfl rfl (D_ rfl) rfl rfl)))) <| Ws 2 H hi2 rfl ?_
  intro S H
  refine A_ <| Q_ <| H_ ?_
  have h := oi h; subst h
  refine Z_ (vs := [(.agg [(.int .i64 7), (.str a0.Body), (.str []), .nils, .nils])]) (Xa0 rfl (H.get 2 rfl) rfl Xas) (L_ rfl rfl) ?_
  exact (by simp only [Xa7, List.map_cons, List.map_nil, Xal, Xax, Xap, Xaq, Xbp, Xbc, Xbo, Xag])
  refine G_ rfl hc5 <| M_ <| C_ <| I_ <| B_ <| us 1 rfl <| Wg H 3 rfl <| w (.bool (decide (a0.Tag < 160))) rfl rfl <| w (.bool (decide (a0.Tag < 160))) rfl rfl ?_
  refine O_ 4 (SH H [(1, (.int .i64 a1)), (2, (.ptr i1 0)), (4, (.ptr i2 0)), (5, (.ptr i3 0)), (6, (.ptr i4 0)), (24, (.bool ((decide (a0.Tag < 160)) || (decide (a0.Tag > 166)))))]) ?_ ?_
  revert H
  cases hc6 : (decide (a0.Tag < 160))
  intro H
  refine us 1 rfl <| N_ rfl rfl <| Wg H 3 rfl <| us 2 rfl <| A_ ?_
  exact kf H
  intro H
  refine us 4 rfl <| A_ ?_
  exact kf H
  rintro σ S e ⟨hk, H, rfl⟩
  generalize ((decide (a0.Tag < 160)) || (decide (a0.Tag > 166))) = p0 at hk h
  refine E_ hk <| w (.bool p0) rfl rfl ?_
  refine O_ 3 (SH H [(1, (.int .i64 a1)), (2, (.ptr i1 0)), (4, (.ptr i2 0)), (5, (.ptr i3 0)), (6, (.ptr i4 0)), (28, (.bool (p0 || (a1 == 0))))]) ?_ ?_
  revert H
  cases hc7 : p0
  intro H
  refine us 3 rfl <| A_ ?_
  exact kf H
  intro H
  refine us 3 rfl <| A_ ?_
  exact kf H
  rintro σ S e ⟨hk, H, rfl⟩
  refine E_ hk <| A_ ?_
  rcases Xa1 h with ⟨hc8, h⟩ | ⟨hc8, h⟩
  refine F_ rfl hc8 <| B_ <| Wg H 1 rfl <| Ws 2 H hi2 rfl ?_
  intro S H
  refine A_ <| Q_ <| H_ ?_
  have h := oi h; subst h
  refine Z_ (vs := [(.agg [(.int .i64 0), (.str []), (.str []), .nils, .nils])]) (Xa0 rfl (H.get 2 rfl) rfl Xas) (L_ rfl rfl) ?_
  exact (by simp only [Xa7, List.map_cons, List.map_nil, Xal, Xax, Xap, Xaq, Xbp, Xbc, Xbo, Xag])
  refine G_ rfl hc8 <| M_ <| C_ <| I_ <| B_ <| us 1 rfl <| Wg H 3 rfl <| us 1 rfl ?_
  obtain ⟨y9, hy9, h⟩ := Xaf h
  refine w (.ptr i4 (0 + Int.toNat (sb .u8 a0.Tag 160) * 1)) rfl (nz rfl (XgS (xs := [1, 2, 3, 4, 8, 5, 6, 0]) rfl rfl rfl rfl rfl hy9)) <| w (.int .i64 y9) rfl (nz rfl (Xij (f := (eI .i64)) (xs := [1, 2, 3, 4, 8, 5, 6, 0]) rfl (H.get 0 rfl) rfl rfl hy9)) <| us 1 rfl <| Ws 1 H hi3 rfl ?_
  intro S H
  refine A_ <| B_ <| us 1 rfl <| Wg H 1 rfl <| A_ <| R_ <| I_ <| B_ <| us 2 rfl <| A_ ?_
  obtain ⟨y10, hy10, hOy10⟩ := Xaf h
  refine a_ (SJ [(1, (.int .i64 a1)), (2, (.ptr i1 0)), (4, (.ptr i2 0)), (5, (.ptr i3 0)), (37, (.int .i64 y9)), (46, (.bool y10))] [] [] [(i4, .cells XoD), (i3, .cells [(.int .i64 y9), (.str []), (.str []), .nils, .nils]), (i2, .cells [(.int .i64 0), (.str []), (.str []), .nils, .nils]), (i1, .cells (Xaa a0))] [] [] false) ?_ ?_
  replace h := hy10
  rcases Xa1 h with ⟨hc11, h⟩ | ⟨hc11, h⟩
  refine F_ rfl hc11 <| M_ <| C_ ?_
  have h := oi h; subst h
  exact kh H
  refine G_ rfl hc11 <| B_ <| us 2 rfl <| A_ ?_
  obtain ⟨y12, hy12, hOy12⟩ := Xaf h
  refine a_ (SJ [(1, (.int .i64 a1)), (2, (.ptr i1 0)), (4, (.ptr i2 0)), (5, (.ptr i3 0)), (37, (.int .i64 y9)), (46, (.bool y12))] [] [] [(i4, .cells XoD), (i3, .cells [(.int .i64 y9), (.str []), (.str []), .nils, .nils]), (i2, .cells [(.int .i64 0), (.str []), (.str []), .nils, .nils]), (i1, .cells (Xaa a0))] [] [] false) ?_ ?_
  replace h := hy12
  rcases Xa1 h with ⟨hc13, h⟩ | ⟨hc13, h⟩
  refine F_ rfl hc13 <| M_ <| C_ ?_
  have h := oi h; subst h
  exact kh H
  refine G_ rfl hc13 <| S_ <| us 2 rfl <| A_ <| C_ ?_
  have h := oi h; subst h
  exact kh H
  rintro σ S e ⟨hk, H, rfl⟩
  replace h := hOy12
  refine J_ hk <| C_ ?_
  have h := oi h; subst h
  exact kh H
  rintro σ S e ⟨hk, H, rfl⟩
  replace h := hOy10
  refine J_ hk <| C_ ?_
  obtain ⟨y14, hy14, hOy14⟩ := Xaf h
  refine a_ (fun σ' S' e' => ∃ v15, ∃ v16, Xa8 eS y14.Subs v15 ∧ Xa8 Xan y14.Kids v16 ∧ Xa2 ([(4, (.ptr i2 0)), (5, (.ptr i3 0))]) σ' ∧ Hp [] [] S' [(i3, .cells (XbJ y14 v15 v16)), (i2, .cells [(.int .i64 0), (.str []), (.str []), .nils, .nils])] [] [] ∧ e' = false) ?_ ?_
  replace h := hy14
  rcases Xa1 h with ⟨hc17, h⟩ | ⟨hc17, h⟩
  refine F_ rfl hc17 <| B_ <| us 1 rfl <| Wg H 3 rfl <| Wl rfl <| us 1 rfl <| A_ ?_
  obtain ⟨y18, hy18, hOy18⟩ := Xaf h
  refine R_ ?_
  have H := H.addNil 5
  refine XsT ih hi3 hi2 ?_ hy18 .nils ((Xam _)) .nils ((Xam _)) kn (H.sub (.cons _ (.cons_cons _ (.cons_cons _ (.cons _ .slnil)))) (.cons_cons _ .slnil) .slnil)
  intro σ S v19 hv19 v20 hv20 hk H; replace h := hOy18
  refine J_ hk <| U_ <| C_ ?_
  have h := oi h; subst h
  exact ⟨v19, v20, hv19, hv20, kn, (H.sub (.cons_cons _ (.cons_cons _ .slnil)) (.cons _ .slnil) .slnil), rfl⟩
  refine G_ rfl hc17 <| B_ <| us 2 rfl <| A_ ?_
  obtain ⟨y21, hy21, hOy21⟩ := Xaf h
  refine a_ (fun σ' S' e' => ∃ v22, ∃ v23, Xa8 eS y21.Subs v22 ∧ Xa8 Xan y21.Kids v23 ∧ Xa2 ([(4, (.ptr i2 0)), (5, (.ptr i3 0))]) σ' ∧ Hp [] [] S' [(i4, .cells XoD), (i3, .cells (XbJ y21 v22 v23)), (i2, .cells [(.int .i64 0), (.str []), (.str []), .nils, .nils]), (i1, .cells (Xaa a0))] [] [] ∧ e' = false) ?_ ?_
  replace h := hy21
  rcases Xa1 h with ⟨hc24, h⟩ | ⟨hc24, h⟩
  refine F_ rfl hc24 <| h_ <| Wgh H 3 rfl ?_
  obtain ⟨y25, hy25, h⟩ := Xaf h
  refine Clh (.agg (Xaa y25)) [(.agg (Xaa a0)), (.int .i64 0)] rfl rfl (sv (s94 _ hy25)) <| wh _ rfl rfl <| Wgh H 3 rfl ?_
  obtain ⟨y26, hy26, h⟩ := Xaf h
  refine Clh (.agg (Xaa y26)) [(.agg (Xaa a0)), (.int .i64 1)] rfl rfl (sv (s94 _ hy26)) ?_
  obtain ⟨y27, hy27, h⟩ := Xaf h
  refine Clh (Xar eS y27) [(.agg (Xaa y26))] rfl rfl (sv (s110 _ hy27)) <| wh _ rfl rfl <| f_ <| Ws 1 H hi3 rfl ?_
  intro S H
  refine us 1 rfl <| WO.store 1 rfl (fe rfl rfl) H rfl rfl rfl rfl (c_ _ _).one.1 (c_ _ _).one.2 rfl (D_ rfl) rfl (XeQ hi3) ?_
  intro S H
  refine A_ <| C_ ?_
  have h := oi h; subst h
  exact ⟨(Xar eS y27), .nils, (c_ _ _), (Xam _), kn, (hs H), rfl⟩
  refine G_ rfl hc24 <| j_ <| wkl H 3 rfl rfl rfl rfl ?_
  obtain ⟨y28, hy28, h⟩ := Xaf h
  refine p_ (v := (.agg (Xaa y28))) rfl (nz rfl (n_ (vs := [(.agg (Xaa a0)), (.int .i64 0)]) rfl rfl (s94 _ hy28 (by simp only [Xax, List.map_cons, List.map_nil, Xap, Xaq, Xai, Xad, XaI, Xal]) _))) rfl <| wk _ rfl rfl rfl rfl <| wkl H 3 rfl rfl rfl rfl ?_
  obtain ⟨y29, hy29, h⟩ := Xaf h
  refine p_ (v := (.agg (Xaa y29))) rfl (nz rfl (n_ (vs := [(.agg (Xaa a0)), (.int .i64 1)]) rfl rfl (s94 _ hy29 (by simp only [Xax, List.map_cons, List.map_nil, Xap, Xaq, Xai, Xad, XaI, Xal]) _))) rfl <| wk _ rfl rfl rfl rfl <| wk _ rfl rfl rfl rfl ?_
  have Hh671 := H
  refine Wsk 1 H hi3 rfl ?_
  intro S H
  refine ⟨(Xah (ld (H.get 3 rfl) rfl) (Xah (ld (H.get 3 rfl) rfl) Xa9)), ?_⟩
  refine WK.nil <| us 1 rfl <| Ws 1 H hi3 rfl ?_
  intro S H
  refine A_ <| C_ ?_
  have h := oi h; subst h
  exact ⟨.nils, .nils, (Xam _), (Xam _), kn, (hs H), rfl⟩
  rintro σ S e ⟨v22, v23, hv22, hv23, hk, H, rfl⟩
  replace h := hOy21
  refine J_ hk <| C_ ?_
  have h := oi h; subst h
  exact ⟨v22, v23, hv22, hv23, kn, (H.sub (.cons _ (.cons_cons _ (.cons_cons _ (.cons _ .slnil)))) .slnil .slnil), rfl⟩
  rintro σ S e ⟨v15, v16, hv15, hv16, hk, H, rfl⟩
  replace h := hOy14
  refine J_ hk <| V_ <| C_ <| B_ <| Wg H 0 rfl <| Ws 1 H hi2 rfl ?_
  intro S H
  refine A_ <| Q_ ?_
  have h := oi h; subst h
  refine Z_ (vs := [(.agg (XbJ y14 v15 v16))]) (Xa0 rfl (H.get 1 rfl) rfl Xas) (L_ rfl rfl) ?_
  exact (by simp only [Xa7, List.map_cons, List.map_nil, Xal, Xax, Xap, Xaq, hv15.strip1, hv16.strip1, Xbo, Xag])
def Xdi (k : Nat) (a0 : Bool) (a1 : Sl Xab) (a2 : Int) : Nat → (Sl Xat) → Int → Option ((Sl Xat) × Int)
 | 0, _, _ => none
 | n + 1, x3, x4 =>
  if decide (x4 < a2) then
  (Sl.at? a1 x4).bind fun y5 =>
  (if a0 then
  (F94 k y5 0).bind fun y6 =>
  (F95 k y6).bind fun y7 =>
  (F94 k y5 1).bind fun y8 =>
  some ((Xat.mk (ad .i64 y7 1) [] none), y8)
  else
  some ((Xat.mk 1 [] none), y5)).bind fun y9 =>
  (F94 k y9.2 0).bind fun y10 =>
  (F94 k y9.2 1).bind fun y11 =>
  (F97 k y11).bind fun y12 =>
  (Sl.app? 48 x3 (Sl.l (some [(Xat.mk y9.1.Kind y10.Body y12)]))).bind fun z13 =>
  Xdi k a0 a1 a2 n z13 (ad .i64 x4 1)
  else
  some (x3, x4)
def F99 (k : Nat) (a0 : Xab) (a1 : Bool) : Option (Sl Xat) :=
 (Xdi k a1 a0.Kids (Sl.len a0.Kids) k none 0).bind fun y2 =>
 some y2.1
theorem XsU {k : Nat} {a1 : Bool} {a2 : Sl Xab} {a3 : Int} {S0 : List SObj} {R : List Nat} {K : KX}  {o : ((Sl Xat) × Int)}
  (hbrk : ∀ {σ' : Nat → PV} {S' : List SObj}, ∀ (v4 : PV) (_ : Xa8 Xao o.1 v4), Xa2 [(5, v4)] σ' → Hp S0 R S' [] [(v4, 3)] [] → K (.exit 0) σ' S' false) :
  ∀ {n : Nat} {x5 : Sl Xat} {x6 : Int}, Xdi k a1 a2 a3 n x5 x6 = some o → ∀ {σ : Nat → PV} {S : List SObj}, ∀ (v7 : PV) (_ : Xa8 Xao x5 v7), Xa2 [(1, (.bool a1)), (5, v7), (10, (Xar Xac a2)), (11, (.int .i64 a3)), (12, (.int .i64 x6))] σ → Hp S0 R S [] [(v7, 3)] [] → WC env ⟨39, S0.length⟩ (.loop XqX) σ S false K := by
 intro n
 induction n with
 | zero => intro _ _ h; cases h
 | succ n ih =>
  intro x5 x6 h σ S v7 hv7 hk H
  rw [Xdi] at h
  refine b_ <| X_ hk <| B_ <| us 1 rfl <| A_ <| I_ ?_
  rcases Xa1 h with ⟨hc8, h⟩ | ⟨hc8, h⟩
  refine F_ rfl hc8 <| M_ <| C_ <| I_ <| R_ <| B_ ?_
  obtain ⟨y9, hy9, h⟩ := Xaf h
  refine Wx hy9 (XaD _) rfl <| us 1 rfl <| Wa (ti := XbA) H rfl ?_
  intro i10 S hi10 H
  refine Ws 0 H hi10 rfl ?_
  intro S H
  refine A_ <| B_ <| w (.agg [(.int .i64 1), (.str []), .nils]) rfl (nz rfl (XaH (ti := XlD) rfl rfl rfl rfl rfl (Xav rfl rfl rfl rfl (D_ rfl) rfl rfl))) <| Wa (ti := XlD) H rfl ?_
  intro i11 S hi11 H
  refine Ws 0 H hi11 rfl ?_
  intro S H
  refine A_ <| I_ <| B_ <| us 1 rfl <| A_ ?_
  obtain ⟨y12, hy12, hOy12⟩ := Xaf h
  refine a_ (fun σ' S' e' => ∃ v13, Xa8 eS y12.1.Values v13 ∧ Xa2 ([(1, (.bool a1)), (5, v7), (7, (.ptr i10 0)), (8, (.ptr i11 0)), (10, (Xar Xac a2)), (11, (.int .i64 a3)), (12, (.int .i64 x6))]) σ' ∧ Hp S0 R S' [(i11, .cells (XkE y12.1 v13)), (i10, .cells (Xaa y12.2))] [(v7, 3)] [] ∧ e' = false) ?_ ?_
  replace h := hy12
  rcases Xa1 h with ⟨hc14, h⟩ | ⟨hc14, h⟩
  refine F_ rfl hc14 <| B_ <| Wg H 1 rfl ?_
  obtain ⟨y15, hy15, h⟩ := Xaf h
  refine Cl (.agg (Xaa y15)) [(.agg (Xaa y9)), (.int .i64 0)] rfl rfl (sv (s94 _ hy15)) ?_
  obtain ⟨y16, hy16, h⟩ := Xaf h
  refine Cl (.int .i64 y16) [(.agg (Xaa y15))] rfl rfl (sv (s95 _ hy16)) <| us 2 rfl <| Ws 0 H hi11 rfl ?_
  intro S H
  refine A_ <| S_ <| Wg H 1 rfl ?_
  obtain ⟨y17, hy17, h⟩ := Xaf h
  refine Cl (.agg (Xaa y17)) [(.agg (Xaa y9)), (.int .i64 1)] rfl rfl (sv (s94 _ hy17)) <| Ws 1 H hi10 rfl ?_
  intro S H
  refine A_ <| C_ ?_
  cases oi h
  exact ⟨.nils, (Xam _), kn, (hs H), rfl⟩
  refine G_ rfl hc14 <| M_ <| C_ ?_
  cases oi h
  exact ⟨.nils, (Xam _), kn, (hs H), rfl⟩
  rintro σ S e ⟨v13, hv13, hk, H, rfl⟩
  replace h := hOy12
  refine J_ hk <| C_ <| I_ <| h_ <| Wgh H 1 rfl ?_
  obtain ⟨y18, hy18, h⟩ := Xaf h
  refine Clh (.agg (Xaa y18)) [(.agg (Xaa y12.2)), (.int .i64 0)] rfl rfl (sv (s94 _ hy18)) <| wh _ rfl rfl <| Wgh H 1 rfl ?_
  obtain ⟨y19, hy19, h⟩ := Xaf h
  refine Clh (.agg (Xaa y19)) [(.agg (Xaa y12.2)), (.int .i64 1)] rfl rfl (sv (s94 _ hy19)) ?_
  obtain ⟨y20, hy20, h⟩ := Xaf h
  refine Clh (Xar eS y20) [(.agg (Xaa y19))] rfl rfl (sv (s97 _ hy20)) <| wh _ rfl rfl <| f_ <| Ws 0 H hi11 rfl ?_
  intro S H
  refine us 1 rfl <| WO.store 0 rfl (fe rfl rfl) H rfl rfl rfl rfl (c_ _ _).one.1 (c_ _ _).one.2 rfl (D_ rfl) rfl (XeQ hi11) ?_
  intro S H
  refine A_ <| C_ <| S_ <| w v7 rfl rfl <| Wg H 0 rfl <| WS rfl (nz rfl (Xaj (ys := [(Xat.mk y12.1.Kind y18.Body y20)]) (f := Xao) (parts := [(0, (.agg [(.int .i64 y12.1.Kind), (.str y18.Body), (Xar eS y20)]))]) rfl rfl rfl rfl rfl (by simp only [Xax, List.map_cons, List.map_nil, Xap, Xaq, Xai, Xal, Xao]) (fc ⟨rfl, rfl⟩ (fun p hp => nomatch hp)) rfl)) ?_
  have hv21 : Xa8 Xao (some [(Xat.mk y12.1.Kind y18.Body y20)]) _ := ⟨.full, rfl⟩
  obtain ⟨z22, hz22, h⟩ := Xaf h
  refine WO.ex rfl (nzx (Xaw hv21.frz rfl) (Xb0 (f := Xao) (ei := XlD) H 0 rfl rfl hv7 rfl hv21 rfl rfl rfl rfl (fun a => (Xe4 a).2.1) hz22)) ?_
  rintro v23 S ⟨hv23, H⟩
  refine w v23 rfl rfl <| A_ <| V_ <| C_ <| S_ <| us 2 rfl <| A_ <| C_ ?_
  exact ih h v23 (hv23) kn (H.sub (.cons _ (.cons _ .slnil)) (.cons_cons _ .slnil) .slnil)
  refine G_ rfl hc8 <| Y_ <| K_ <| K_ ?_
  cases oi h
  exact hbrk v7 (hv7) kn (hs H)
theorem s99 : ∀ k : Nat, ∀ {a0 : Xab} {a1 : Bool} {r : (Sl Xat)}, F99 k a0 a1 = some r → Q 99 [(.agg (Xaa a0)), (.bool a1)] (Xar Xao r) := by
 intro k a0 a1 r h vs ha S
 unfold F99 at h
 refine e_ (pf := XtD) rfl rfl ha (D_ rfl) cq cq ?_
 refine o_ (pf := XtD) rfl ?_
 have H := g_ []
 refine B_ <| Wb H rfl ?_
 intro i1 S hi1 H
 refine us 1 rfl <| A_ <| B_ <| us 1 rfl <| A_ <| I_ <| B_ <| us 1 rfl <| Wg H 0 rfl <| Wl rfl <| us 1 rfl <| A_ ?_
 obtain ⟨y2, hy2, hOy2⟩ := Xaf h
 refine R_ ?_
 have H := H.addNil 3
 refine XsU ?_ hy2 .nils ((Xam _)) kn (H.sub (.cons _ .slnil) (.cons_cons _ .slnil) .slnil)
 intro σ S v3 hv3 hk H; replace h := hOy2
 refine J_ hk <| U_ <| C_ <| B_ <| w v3 rfl rfl <| w v3 rfl rfl <| A_ <| Q_ ?_
 cases oi h
 refine Z_ (vs := [v3]) (T_ rfl Xas) (L_ hv3.frz rfl) ?_
 exact (by simp only [Xa7, List.map_cons, List.map_nil, Xal, hv3.strip])
def Xol (k : Nat) (a0 : Str) : Option (Bool × Bool) :=
 (if (Str.len a0) == 1 then
 (Str.at? a0 0).bind fun c6 =>
 some (c6 != 0)
 else
 some false).bind fun y5 =>
 some (y5, (Str.len a0) == 1)
theorem s100 : ∀ k : Nat, ∀ {a0 : Str} {r : Bool × Bool}, Xol k a0 = some r → Q 100 [(.str a0)] (.tup [(.bool r.1), (.bool r.2)]) := by
 intro k a0 r h
 unfold Xol at h
 refine Qg (pf := XnC) rfl rfl rfl fun H => ?_
 refine B_ <| us 2 rfl <| A_ <| B_ <| us 2 rfl <| w (.bool ((Str.len a0) == 1)) rfl rfl <| w (.bool ((Str.len a0) == 1)) rfl rfl ?_
 obtain ⟨y5, hy5, hOy5⟩ := Xaf h
 refine O_ 4 (SJ [(0, (.str a0)), (11, (.bool y5))] [] [] [] [] [] false) ?_ ?_
 replace h := hy5
 revert H
 cases hc7 : ((Str.len a0) == 1)
 intro H
 replace h := Xc5 h hc7
 refine us 4 rfl <| A_ ?_
 cases oi h
 exact kh H
 intro H
 replace h := Xc4 h hc7
 refine us 1 rfl <| N_ rfl rfl ?_
 obtain ⟨c6, hc6, h⟩ := Xaf h
 refine w (.int .u8 c6) rfl (nz rfl (XaU rfl rfl rfl hc6)) <| us 2 rfl <| A_ ?_
 cases oi h
 exact kh H
 rintro σ S e ⟨hk, H, rfl⟩
 replace h := hOy5
 refine E_ hk <| us 2 rfl <| w (.bool ((Str.len a0) == 1)) rfl rfl <| us 1 rfl <| w (.bool ((Str.len a0) == 1)) rfl rfl <| A_ <| Q_ ?_
 cases oi h
 refine Z_ (vs := [(.bool y5), (.bool ((Str.len a0) == 1))]) (T_ rfl (T_ rfl Xas)) (L_ rfl (L_ rfl rfl)) ?_
 exact rfl
def F73 (k : Nat) (a0 : Xab) : Option Xay :=
 (F94 k a0 1).bind fun y3 =>
 (F94 k a0 0).bind fun y5 =>
 (F95 k y5).bind fun y6 =>
 (F96 k y3.Tag).bind fun y8 =>
 (if y8.1 == 1 then
 (F94 k y3 0).bind fun y1 =>
 (F95 k y1).bind fun y2 =>
 (F94 k y3 1).bind fun y4 =>
 (F94 k y3 2).bind fun y7 =>
 some (Xay.mk y6 y8.1 y8.2 y4.Body y2 y7.Body 0 0 (Xae.mk 0 [] [] none none) none none [] false false [] [] [] 0 [])
 else
 (if y8.1 == 3 then
 (F94 k y3 0).bind fun y9 =>
 (F94 k y3 1).bind fun y10 =>
 (F95 k y10).bind fun y11 =>
 (F94 k y3 3).bind fun y12 =>
 (F95 k y12).bind fun y13 =>
 (F94 k y3 7).bind fun y14 =>
 (F97 k y14).bind fun y15 =>
 (F94 k y3 6).bind fun y16 =>
 (F98 k y16 20).bind fun y17 =>
 some (Xay.mk y6 y8.1 y8.2 y9.Body 0 [] y11 y13 y17 y15 none [] false false [] [] [] 0 [])
 else
 (if y8.1 == 4 then
 some (y8.1 == 4)
 else
 (if y8.1 == 5 then
 some (y8.1 == 5)
 else
 some (y8.1 == 10)).bind fun y18 =>
 some y18).bind fun y19 =>
 (if y19 then
 (F94 k y3 0).bind fun y20 =>
 (F94 k y3 1).bind fun y21 =>
 (F99 k y21 (y8.1 == 4)).bind fun y22 =>
 some (Xay.mk y6 y8.1 y8.2 y20.Body 0 [] 0 0 (Xae.mk 0 [] [] none none) none y22 [] false false [] [] [] 0 [])
 else
 (if y8.1 == 6 then
 some (Xay.mk y6 y8.1 y8.2 y3.Body 0 [] 0 0 (Xae.mk 0 [] [] none none) none none [] false false [] [] [] 0 [])
 else
 (if y8.1 == 7 then
 (F94 k y3 0).bind fun y23 =>
 (F94 k y3 1).bind fun y24 =>
 (F94 k y3 2).bind fun y25 =>
 (Xol k y25.Body).bind fun y26 =>
 (F94 k y3 3).bind fun y27 =>
 some (Xay.mk y6 y8.1 y8.2 y23.Body 0 [] 0 0 (Xae.mk 0 [] [] none none) none none y24.Body y26.1 (decide ((Sl.len y3.Kids) > 3)) y27.Body [] [] 0 [])
 else
 (if y8.1 == 8 then
 (F94 k y3 0).bind fun y28 =>
 (F94 k y3 1).bind fun y29 =>
 (F94 k y29 0).bind fun y30 =>
 (F94 k y3 1).bind fun y31 =>
 (F94 k y31 1).bind fun y32 =>
 some (Xay.mk y6 y8.1 y8.2 y28.Body 0 [] 0 0 (Xae.mk 0 [] [] none none) none none [] false false [] y30.Body y32.Body 0 [])
 else
 (if y8.1 == 9 then
 (F94 k y3 0).bind fun y33 =>
 (F95 k y33).bind fun y34 =>
 (F94 k y3 1).bind fun y35 =>
 some (Xay.mk y6 y8.1 y8.2 [] 0 [] 0 0 (Xae.mk 0 [] [] none none) none none [] false false [] [] [] y34 y35.Body)
 else
 some (Xay.mk y6 y8.1 y8.2 [] 0 [] 0 0 (Xae.mk 0 [] [] none none) none none [] false false [] [] [] 0 [])).bind fun y36 =>
 some y36).bind fun y37 =>
 some y37).bind fun y38 =>
 some y38).bind fun y39 =>
 some y39).bind fun y40 =>
 some y40).bind fun y41 =>
 some y41).bind fun y42 =>
 some y42
theorem s73 : ∀ k : Nat, ∀ {a0 : Xab} {r : Xay}, F73 k a0 = some r → Q 73 [(.agg (Xaa a0))] (.agg (Xak r)) := by
 intro k a0 r h vs ha S
 unfold F73 at h
 refine e_ (pf := XtE) rfl rfl ha (D_ rfl) cq cq ?_
 refine o_ (pf := XtE) rfl ?_
 have H := g_ []
 refine B_ <| Wb H rfl ?_
 intro i1 S hi1 H
 refine Wa (ti := XgD) H rfl ?_
 intro i2 S hi2 H
 refine A_ <| B_ <| Wg H 1 rfl ?_
 obtain ⟨y3, hy3, h⟩ := Xaf h
 refine Cl (.agg (Xaa y3)) [(.agg (Xaa a0)), (.int .i64 1)] rfl rfl (sv (s94 _ hy3)) <| Wa (ti := XbA) H rfl ?_
 intro i4 S hi4 H
 refine Ws 0 H hi4 rfl ?_
 intro S H
 refine A_ <| B_ <| Wg H 2 rfl ?_
 obtain ⟨y5, hy5, h⟩ := Xaf h
 refine Cl (.agg (Xaa y5)) [(.agg (Xaa a0)), (.int .i64 0)] rfl rfl (sv (s94 _ hy5)) ?_
 obtain ⟨y6, hy6, h⟩ := Xaf h
 refine Cl (.int .i64 y6) [(.agg (Xaa y5))] rfl rfl (sv (s95 _ hy6)) <| w (.agg [(.int .i64 y6), (.int .i64 0), (.int .i64 0), (.str []), (.int .i64 0), (.str []), (.int .i64 0), (.int .i64 0), (.int .i64 0), (.str []), (.str []), .nils, .nils, .nils, .nils, (.str []), (.bool false), (.bool false), (.str []), (.str []), (.str []), (.int .i64 0), (.str [])]) rfl (nz rfl (XaH (ti := XgD) rfl rfl rfl rfl rfl (Xav rfl rfl rfl rfl (D_ rfl) rfl rfl))) <| Wa (ti := XgD) H rfl ?_
 intro i7 S hi7 H
 refine Ws 0 H hi7 rfl ?_
 intro S H
 refine A_ <| B_ <| us 1 rfl <| Wg H 1 rfl ?_
 obtain ⟨y8, hy8, h⟩ := Xaf h
 refine Cl (.tup [(.int .i64 y8.1), (.int .i64 y8.2)]) [(.int .u8 y3.Tag)] rfl rfl (s96 _ hy8 rfl) <| us 4 rfl <| Ws 0 H hi7 rfl ?_
 intro S H
 refine us 1 rfl <| Ws 0 H hi7 rfl ?_
 intro S H
 replace H : Hp [] [] _ [(i7, .cells [(.int .i64 y6), (.int .i64 y8.1), (.int .i64 y8.2), (.str []), (.int .i64 0), (.str []), (.int .i64 0), (.int .i64 0), (.int .i64 0), (.str []), (.str []), .nils, .nils, .nils, .nils, (.str []), (.bool false), (.bool false), (.str []), (.str []), (.str []), (.int .i64 0), (.str [])]), (i4, .cells (Xaa y3)), (i2, .cells z0_), (i1, .cells (Xaa a0))] [] [] := H
 refine A_ <| I_ <| B_ <| us 1 rfl <| Wg H 0 rfl <| A_ <| R_ <| B_ <| us 2 rfl <| A_ ?_
 obtain ⟨y9, hy9, hOy9⟩ := Xaf h
 refine a_ (fun σ' S' e' => ∃ v10, ∃ v11, ∃ v12, ∃ v13, Xa8 eS y9.Filter.Subs v10 ∧ Xa8 Xan y9.Filter.Kids v11 ∧ Xa8 eS y9.Wants v12 ∧ Xa8 Xao y9.Mods v13 ∧ Xa2 ([(2, (.ptr i2 0)), (4, (.ptr i7 0))]) σ' ∧ Hp [] [] S' [(i7, .cells (XaO y9 v10 v11 v12 v13)), (i4, .cells (Xaa y3)), (i2, .cells z0_), (i1, .cells (Xaa a0))] [] [] ∧ e' = false) ?_ ?_
 replace h := hy9
 rcases Xa1 h with ⟨hc14, h⟩ | ⟨hc14, h⟩
 refine F_ rfl hc14 <| j_ <| wkl H 1 rfl rfl rfl rfl ?_
 obtain ⟨y15, hy15, h⟩ := Xaf h
 refine p_ (v := (.agg (Xaa y15))) rfl (nz rfl (n_ (vs := [(.agg (Xaa y3)), (.int .i64 0)]) rfl rfl (s94 _ hy15 (by simp only [Xax, List.map_cons, List.map_nil, Xap, Xaq, Xai, Xad, XaI, Xal]) _))) rfl ?_
 obtain ⟨y16, hy16, h⟩ := Xaf h
 refine p_ (v := .int .i64 y16) rfl (nz rfl (n_ (vs := [(.agg (Xaa y15))]) rfl rfl (s95 _ hy16 (by simp only [Xax, List.map_cons, List.map_nil, Xap, Xaq, Xai, Xad, Xal]) _))) rfl <| wkl H 1 rfl rfl rfl rfl ?_
 obtain ⟨y17, hy17, h⟩ := Xaf h
 refine p_ (v := (.agg (Xaa y17))) rfl (nz rfl (n_ (vs := [(.agg (Xaa y3)), (.int .i64 1)]) rfl rfl (s94 _ hy17 (by simp only [Xax, List.map_cons, List.map_nil, Xap, Xaq, Xai, Xad, XaI, Xal]) _))) rfl <| wk _ rfl rfl rfl rfl <| wkl H 1 rfl rfl rfl rfl ?_
 obtain ⟨y18, hy18, h⟩ := Xaf h
 refine p_ (v := (.agg (Xaa y18))) rfl (nz rfl (n_ (vs := [(.agg (Xaa y3)), (.int .i64 2)]) rfl rfl (s94 _ hy18 (by simp only [Xax, List.map_cons, List.map_nil, Xap, Xaq, Xai, Xad, XaI, Xal]) _))) rfl <| wk _ rfl rfl rfl rfl <| wk _ rfl rfl rfl rfl ?_
 have Hh41048 := H
 refine Wsk 0 H hi7 rfl ?_
 intro S H
 refine ⟨(Xah (ld (H.get 1 rfl) rfl) (Xah (ld (H.get 1 rfl) rfl) (Xah (ld (H.get 1 rfl) rfl) Xa9))), ?_⟩
 refine wk _ rfl rfl rfl rfl ?_
 have Hh41049 := H
 refine Wsk 0 H hi7 rfl ?_
 intro S H
 refine ⟨(Xah (ld (H.get 1 rfl) rfl) (Xah (ld (H.get 1 rfl) rfl) (Xah (ld (H.get 1 rfl) rfl) Xa9))), ?_⟩
 refine WK.nil <| us 1 rfl <| Ws 0 H hi7 rfl ?_
 intro S H
 replace H : Hp [] [] _ [(i7, .cells [(.int .i64 y6), (.int .i64 y8.1), (.int .i64 y8.2), (.str y17.Body), (.int .i64 y16), (.str y18.Body), (.int .i64 0), (.int .i64 0), (.int .i64 0), (.str []), (.str []), .nils, .nils, .nils, .nils, (.str []), (.bool false), (.bool false), (.str []), (.str []), (.str []), (.int .i64 0), (.str [])]), (i4, .cells (Xaa y3)), (i2, .cells z0_), (i1, .cells (Xaa a0))] [] [] := H
 refine A_ <| C_ ?_
 have h := oi h; subst h
 exact ⟨.nils, .nils, .nils, .nils, (Xam _), (Xam _), (Xam _), (Xam _), kn, (hs H), rfl⟩
 refine G_ rfl hc14 <| B_ <| us 2 rfl <| A_ ?_
 obtain ⟨y19, hy19, hOy19⟩ := Xaf h
 refine a_ (fun σ' S' e' => ∃ v20, ∃ v21, ∃ v22, ∃ v23, Xa8 eS y19.Filter.Subs v20 ∧ Xa8 Xan y19.Filter.Kids v21 ∧ Xa8 eS y19.Wants v22 ∧ Xa8 Xao y19.Mods v23 ∧ Xa2 ([(2, (.ptr i2 0)), (4, (.ptr i7 0))]) σ' ∧ Hp [] [] S' [(i7, .cells (XaO y19 v20 v21 v22 v23)), (i4, .cells (Xaa y3)), (i2, .cells z0_), (i1, .cells (Xaa a0))] [] [] ∧ e' = false) ?_ ?_
 replace h := hy19
 rcases Xa1 h with ⟨hc24, h⟩ | ⟨hc24, h⟩
 refine F_ rfl hc24 <| I_ <| h_ <| Wgh H 1 rfl ?_
 obtain ⟨y25, hy25, h⟩ := Xaf h
 refine Clh (.agg (Xaa y25)) [(.agg (Xaa y3)), (.int .i64 0)] rfl rfl (sv (s94 _ hy25)) <| wh _ rfl rfl <| Wgh H 1 rfl ?_
 obtain ⟨y26, hy26, h⟩ := Xaf h
 refine Clh (.agg (Xaa y26)) [(.agg (Xaa y3)), (.int .i64 1)] rfl rfl (sv (s94 _ hy26)) ?_
 obtain ⟨y27, hy27, h⟩ := Xaf h
 refine Clh (.int .i64 y27) [(.agg (Xaa y26))] rfl rfl (sv (s95 _ hy27)) <| Wgh H 1 rfl ?_
 obtain ⟨y28, hy28, h⟩ := Xaf h
 refine Clh (.agg (Xaa y28)) [(.agg (Xaa y3)), (.int .i64 3)] rfl rfl (sv (s94 _ hy28)) ?_
 obtain ⟨y29, hy29, h⟩ := Xaf h
 refine Clh (.int .i64 y29) [(.agg (Xaa y28))] rfl rfl (sv (s95 _ hy29)) <| Wgh H 1 rfl ?_
 obtain ⟨y30, hy30, h⟩ := Xaf h
 refine Clh (.agg (Xaa y30)) [(.agg (Xaa y3)), (.int .i64 7)] rfl rfl (sv (s94 _ hy30)) ?_
 obtain ⟨y31, hy31, h⟩ := Xaf h
 refine Clh (Xar eS y31) [(.agg (Xaa y30))] rfl rfl (sv (s97 _ hy31)) <| wh _ rfl rfl <| f_ <| Ws 0 H hi7 rfl ?_
 intro S H
 refine us 1 rfl <| Ws 0 H hi7 rfl ?_
 intro S H
 refine us 1 rfl <| Ws 0 H hi7 rfl ?_
 intro S H
 refine us 1 rfl <| WO.store 0 rfl (fe rfl rfl) H rfl rfl rfl rfl (c_ _ _).one.1 (c_ _ _).one.2 rfl (D_ rfl) rfl (XeQ hi7) ?_
 intro S H
 refine A_ <| C_ <| S_ <| Wg H 1 rfl ?_
 obtain ⟨y32, hy32, h⟩ := Xaf h
 refine Cl (.agg (Xaa y32)) [(.agg (Xaa y3)), (.int .i64 6)] rfl rfl (sv (s94 _ hy32)) ?_
 obtain ⟨y33, hy33, h⟩ := Xaf h
 refine Cl (.agg (Xag y33)) [(.agg (Xaa y32)), (.int .i64 20)] rfl rfl (sv (s98 _ hy33)) <| us 1 rfl <| Ws 0 H hi7 rfl ?_
 intro S H
 replace H : Hp [] [] _ [(i7, .cells [(.int .i64 y6), (.int .i64 y8.1), (.int .i64 y8.2), (.str y25.Body), (.int .i64 0), (.str []), (.int .i64 y27), (.int .i64 y29), (.int .i64 y33.Kind), (.str y33.Attr), (.str y33.Value), (Xar eS y33.Subs), (Xar Xan y33.Kids), (Xar eS y31), .nils, (.str []), (.bool false), (.bool false), (.str []), (.str []), (.str []), (.int .i64 0), (.str [])]), (i4, .cells (Xaa y3)), (i2, .cells z0_), (i1, .cells (Xaa a0))] [] [] := H
 refine A_ <| C_ ?_
 have h := oi h; subst h
 exact ⟨(Xar eS y33.Subs), (Xar Xan y33.Kids), (Xar eS y31), .nils, (c_ _ _), (c_ _ _), (c_ _ _), (Xam _), kn, (hs H), rfl⟩
 refine G_ rfl hc24 <| I_ <| B_ <| us 2 rfl <| A_ ?_
 obtain ⟨y34, hy34, hOy34⟩ := Xaf h
 refine a_ (SJ [(2, (.ptr i2 0)), (3, (.ptr i4 0)), (4, (.ptr i7 0)), (20, (.int .i64 y8.1)), (57, (.bool y34))] [] [] [(i7, .cells [(.int .i64 y6), (.int .i64 y8.1), (.int .i64 y8.2), (.str []), (.int .i64 0), (.str []), (.int .i64 0), (.int .i64 0), (.int .i64 0), (.str []), (.str []), .nils, .nils, .nils, .nils, (.str []), (.bool false), (.bool false), (.str []), (.str []), (.str []), (.int .i64 0), (.str [])]), (i4, .cells (Xaa y3)), (i2, .cells z0_), (i1, .cells (Xaa a0))] [] [] false) ?_ ?_
 replace h := hy34
 rcases Xa1 h with ⟨hc35, h⟩ | ⟨hc35, h⟩
 refine F_ rfl hc35 <| M_ <| C_ ?_
 have h := oi h; subst h
 exact kh H
 refine G_ rfl hc35 <| B_ <| us 2 rfl <| A_ ?_
 obtain ⟨y36, hy36, hOy36⟩ := Xaf h
 refine a_ (SJ [(2, (.ptr i2 0)), (3, (.ptr i4 0)), (4, (.ptr i7 0)), (20, (.int .i64 y8.1)), (57, (.bool y36))] [] [] [(i7, .cells [(.int .i64 y6), (.int .i64 y8.1), (.int .i64 y8.2), (.str []), (.int .i64 0), (.str []), (.int .i64 0), (.int .i64 0), (.int .i64 0), (.str []), (.str []), .nils, .nils, .nils, .nils, (.str []), (.bool false), (.bool false), (.str []), (.str []), (.str []), (.int .i64 0), (.str [])]), (i4, .cells (Xaa y3)), (i2, .cells z0_), (i1, .cells (Xaa a0))] [] [] false) ?_ ?_
 replace h := hy36
 rcases Xa1 h with ⟨hc37, h⟩ | ⟨hc37, h⟩
 refine F_ rfl hc37 <| M_ <| C_ ?_
 have h := oi h; subst h
 exact kh H
 refine G_ rfl hc37 <| S_ <| us 2 rfl <| A_ <| C_ ?_
 have h := oi h; subst h
 exact kh H
 rintro σ S e ⟨hk, H, rfl⟩
 replace h := hOy36
 refine J_ hk <| C_ ?_
 have h := oi h; subst h
 exact kh H
 rintro σ S e ⟨hk, H, rfl⟩
 replace h := hOy34
 refine J_ hk <| C_ ?_
 obtain ⟨y38, hy38, hOy38⟩ := Xaf h
 refine a_ (fun σ' S' e' => ∃ v39, ∃ v40, ∃ v41, ∃ v42, Xa8 eS y38.Filter.Subs v39 ∧ Xa8 Xan y38.Filter.Kids v40 ∧ Xa8 eS y38.Wants v41 ∧ Xa8 Xao y38.Mods v42 ∧ Xa2 ([(2, (.ptr i2 0)), (4, (.ptr i7 0))]) σ' ∧ Hp [] [] S' [(i7, .cells (XaO y38 v39 v40 v41 v42)), (i4, .cells (Xaa y3)), (i2, .cells z0_), (i1, .cells (Xaa a0))] [] [] ∧ e' = false) ?_ ?_
 replace h := hy38
 rcases Xa1 h with ⟨hc43, h⟩ | ⟨hc43, h⟩
 refine F_ rfl hc43 <| h_ <| Wgh H 1 rfl ?_
 obtain ⟨y44, hy44, h⟩ := Xaf h
 refine Clh (.agg (Xaa y44)) [(.agg (Xaa y3)), (.int .i64 0)] rfl rfl (sv (s94 _ hy44)) <| wh _ rfl rfl <| Wgh H 1 rfl ?_
 obtain ⟨y45, hy45, h⟩ := Xaf h
 refine Clh (.agg (Xaa y45)) [(.agg (Xaa y3)), (.int .i64 1)] rfl rfl (sv (s94 _ hy45)) <| wh _ rfl rfl <| Wgh H 0 rfl <| wh _ rfl rfl ?_
 obtain ⟨y46, hy46, h⟩ := Xaf h
 refine Clh (Xar Xao y46) [(.agg (Xaa y45)), (.bool (y8.1 == 4))] rfl rfl (sv (s99 _ hy46)) <| wh _ rfl rfl <| f_ <| Ws 0 H hi7 rfl ?_
 intro S H
 refine us 1 rfl <| WO.store 0 rfl (fe rfl rfl) H rfl rfl rfl rfl (c_ _ _).one.1 (c_ _ _).one.2 rfl (D_ rfl) rfl (XeQ hi7) ?_
 intro S H
 replace H : Hp [] [] _ [(i7, .cells [(.int .i64 y6), (.int .i64 y8.1), (.int .i64 y8.2), (.str y44.Body), (.int .i64 0), (.str []), (.int .i64 0), (.int .i64 0), (.int .i64 0), (.str []), (.str []), .nils, .nils, .nils, (Xar Xao y46), (.str []), (.bool false), (.bool false), (.str []), (.str []), (.str []), (.int .i64 0), (.str [])]), (i4, .cells (Xaa y3)), (i2, .cells z0_), (i1, .cells (Xaa a0))] [] [] := H
 refine A_ <| C_ ?_
 have h := oi h; subst h
 exact ⟨.nils, .nils, .nils, (Xar Xao y46), (Xam _), (Xam _), (Xam _), (c_ _ _), kn, (hs H), rfl⟩
 refine G_ rfl hc43 <| B_ <| us 2 rfl <| A_ ?_
 obtain ⟨y47, hy47, hOy47⟩ := Xaf h
 refine a_ (fun σ' S' e' => ∃ v48, ∃ v49, ∃ v50, ∃ v51, Xa8 eS y47.Filter.Subs v48 ∧ Xa8 Xan y47.Filter.Kids v49 ∧ Xa8 eS y47.Wants v50 ∧ Xa8 Xao y47.Mods v51 ∧ Xa2 ([(2, (.ptr i2 0)), (4, (.ptr i7 0))]) σ' ∧ Hp [] [] S' [(i7, .cells (XaO y47 v48 v49 v50 v51)), (i4, .cells (Xaa y3)), (i2, .cells z0_), (i1, .cells (Xaa a0))] [] [] ∧ e' = false) ?_ ?_
 replace h := hy47
 rcases Xa1 h with ⟨hc52, h⟩ | ⟨hc52, h⟩
 refine F_ rfl hc52 <| S_ <| us 1 rfl <| Wg H 1 rfl <| us 1 rfl <| Ws 0 H hi7 rfl ?_
 intro S H
 replace H : Hp [] [] _ [(i7, .cells [(.int .i64 y6), (.int .i64 y8.1), (.int .i64 y8.2), (.str y3.Body), (.int .i64 0), (.str []), (.int .i64 0), (.int .i64 0), (.int .i64 0), (.str []), (.str []), .nils, .nils, .nils, .nils, (.str []), (.bool false), (.bool false), (.str []), (.str []), (.str []), (.int .i64 0), (.str [])]), (i4, .cells (Xaa y3)), (i2, .cells z0_), (i1, .cells (Xaa a0))] [] [] := H
 refine A_ <| C_ ?_
 have h := oi h; subst h
 exact ⟨.nils, .nils, .nils, .nils, (Xam _), (Xam _), (Xam _), (Xam _), kn, (hs H), rfl⟩
 refine G_ rfl hc52 <| B_ <| us 2 rfl <| A_ ?_
 obtain ⟨y53, hy53, hOy53⟩ := Xaf h
 refine a_ (fun σ' S' e' => ∃ v54, ∃ v55, ∃ v56, ∃ v57, Xa8 eS y53.Filter.Subs v54 ∧ Xa8 Xan y53.Filter.Kids v55 ∧ Xa8 eS y53.Wants v56 ∧ Xa8 Xao y53.Mods v57 ∧ Xa2 ([(2, (.ptr i2 0)), (4, (.ptr i7 0))]) σ' ∧ Hp [] [] S' [(i7, .cells (XaO y53 v54 v55 v56 v57)), (i4, .cells (Xaa y3)), (i2, .cells z0_), (i1, .cells (Xaa a0))] [] [] ∧ e' = false) ?_ ?_
 replace h := hy53
 rcases Xa1 h with ⟨hc58, h⟩ | ⟨hc58, h⟩
 refine F_ rfl hc58 <| I_ <| j_ <| wkl H 1 rfl rfl rfl rfl ?_
 obtain ⟨y59, hy59, h⟩ := Xaf h
 refine p_ (v := (.agg (Xaa y59))) rfl (nz rfl (n_ (vs := [(.agg (Xaa y3)), (.int .i64 0)]) rfl rfl (s94 _ hy59 (by simp only [Xax, List.map_cons, List.map_nil, Xap, Xaq, Xai, Xad, XaI, Xal]) _))) rfl <| wk _ rfl rfl rfl rfl <| wkl H 1 rfl rfl rfl rfl ?_
 obtain ⟨y60, hy60, h⟩ := Xaf h
 refine p_ (v := (.agg (Xaa y60))) rfl (nz rfl (n_ (vs := [(.agg (Xaa y3)), (.int .i64 1)]) rfl rfl (s94 _ hy60 (by simp only [Xax, List.map_cons, List.map_nil, Xap, Xaq, Xai, Xad, XaI, Xal]) _))) rfl <| wk _ rfl rfl rfl rfl <| wk _ rfl rfl rfl rfl <| wkl H 1 rfl rfl rfl rfl <| WK.step (v := (.int .i64 (Sl.len y3.Kids))) rfl (nz rfl (XdC rfl (c_ _ _) rfl)) rfl rfl rfl (XmK rfl (c_ _ _)) <| WK.step (v := (.bool (decide ((Sl.len y3.Kids) > 3)))) rfl (nz rfl rfl) rfl rfl rfl rfl <| wk _ rfl rfl rfl rfl ?_
 have Hh49150 := H
 refine Wsk 0 H hi7 rfl ?_
 intro S H
 refine ⟨(Xah (ld (H.get 1 rfl) rfl) (Xah (ld (H.get 1 rfl) rfl) (Xah (ld (H.get 1 rfl) rfl) Xa9))), ?_⟩
 refine wk _ rfl rfl rfl rfl ?_
 have Hh49151 := H
 refine Wsk 0 H hi7 rfl ?_
 intro S H
 refine ⟨(Xah (ld (H.get 1 rfl) rfl) (Xah (ld (H.get 1 rfl) rfl) (Xah (ld (H.get 1 rfl) rfl) Xa9))), ?_⟩
 refine WK.nil <| us 1 rfl <| Ws 0 H hi7 rfl ?_
 intro S H
 refine A_ <| C_ <| B_ <| Wg H 1 rfl ?_
 obtain ⟨y61, hy61, h⟩ := Xaf h
 refine Cl (.agg (Xaa y61)) [(.agg (Xaa y3)), (.int .i64 2)] rfl rfl (sv (s94 _ hy61)) <| us 1 rfl ?_
 obtain ⟨y62, hy62, h⟩ := Xaf h
 refine Cl (.tup [(.bool y62.1), (.bool y62.2)]) [(.str y61.Body)] rfl rfl (s100 _ hy62 rfl) <| us 4 rfl <| Ws 0 H hi7 rfl ?_
 intro S H
 refine A_ <| S_ <| Wg H 1 rfl ?_
 obtain ⟨y63, hy63, h⟩ := Xaf h
 refine Cl (.agg (Xaa y63)) [(.agg (Xaa y3)), (.int .i64 3)] rfl rfl (sv (s94 _ hy63)) <| us 2 rfl <| Ws 0 H hi7 rfl ?_
 intro S H
 replace H : Hp [] [] _ [(i7, .cells [(.int .i64 y6), (.int .i64 y8.1), (.int .i64 y8.2), (.str y59.Body), (.int .i64 0), (.str []), (.int .i64 0), (.int .i64 0), (.int .i64 0), (.str []), (.str []), .nils, .nils, .nils, .nils, (.str y60.Body), (.bool y62.1), (.bool (decide ((Sl.len y3.Kids) > 3))), (.str y63.Body), (.str []), (.str []), (.int .i64 0), (.str [])]), (i4, .cells (Xaa y3)), (i2, .cells z0_), (i1, .cells (Xaa a0))] [] [] := H
 refine A_ <| C_ ?_
 have h := oi h; subst h
 exact ⟨.nils, .nils, .nils, .nils, (Xam _), (Xam _), (Xam _), (Xam _), kn, (hs H), rfl⟩
 refine G_ rfl hc58 <| B_ <| us 2 rfl <| A_ ?_
 obtain ⟨y64, hy64, hOy64⟩ := Xaf h
 refine a_ (fun σ' S' e' => ∃ v65, ∃ v66, ∃ v67, ∃ v68, Xa8 eS y64.Filter.Subs v65 ∧ Xa8 Xan y64.Filter.Kids v66 ∧ Xa8 eS y64.Wants v67 ∧ Xa8 Xao y64.Mods v68 ∧ Xa2 ([(2, (.ptr i2 0)), (4, (.ptr i7 0))]) σ' ∧ Hp [] [] S' [(i7, .cells (XaO y64 v65 v66 v67 v68)), (i4, .cells (Xaa y3)), (i2, .cells z0_), (i1, .cells (Xaa a0))] [] [] ∧ e' = false) ?_ ?_
 replace h := hy64
 rcases Xa1 h with ⟨hc69, h⟩ | ⟨hc69, h⟩
 refine F_ rfl hc69 <| j_ <| wkl H 1 rfl rfl rfl rfl ?_
 obtain ⟨y70, hy70, h⟩ := Xaf h
 refine p_ (v := (.agg (Xaa y70))) rfl (nz rfl (n_ (vs := [(.agg (Xaa y3)), (.int .i64 0)]) rfl rfl (s94 _ hy70 (by simp only [Xax, List.map_cons, List.map_nil, Xap, Xaq, Xai, Xad, XaI, Xal]) _))) rfl <| wk _ rfl rfl rfl rfl <| wkl H 1 rfl rfl rfl rfl ?_
 obtain ⟨y71, hy71, h⟩ := Xaf h
 refine p_ (v := (.agg (Xaa y71))) rfl (nz rfl (n_ (vs := [(.agg (Xaa y3)), (.int .i64 1)]) rfl rfl (s94 _ hy71 (by simp only [Xax, List.map_cons, List.map_nil, Xap, Xaq, Xai, Xad, XaI, Xal]) _))) rfl ?_
 obtain ⟨y72, hy72, h⟩ := Xaf h
 refine p_ (v := (.agg (Xaa y72))) rfl (nz rfl (n_ (vs := [(.agg (Xaa y71)), (.int .i64 0)]) rfl rfl (s94 _ hy72 (by simp only [Xax, List.map_cons, List.map_nil, Xap, Xaq, Xai, Xad, XaI, Xal]) _))) rfl <| wk _ rfl rfl rfl rfl <| wkl H 1 rfl rfl rfl rfl ?_
 obtain ⟨y73, hy73, h⟩ := Xaf h
 refine p_ (v := (.agg (Xaa y73))) rfl (nz rfl (n_ (vs := [(.agg (Xaa y3)), (.int .i64 1)]) rfl rfl (s94 _ hy73 (by simp only [Xax, List.map_cons, List.map_nil, Xap, Xaq, Xai, Xad, XaI, Xal]) _))) rfl ?_
 obtain ⟨y74, hy74, h⟩ := Xaf h
 refine p_ (v := (.agg (Xaa y74))) rfl (nz rfl (n_ (vs := [(.agg (Xaa y73)), (.int .i64 1)]) rfl rfl (s94 _ hy74 (by simp only [Xax, List.map_cons, List.map_nil, Xap, Xaq, Xai, Xad, XaI, Xal]) _))) rfl <| wk _ rfl rfl rfl rfl <| wk _ rfl rfl rfl rfl ?_
 have Hh49221 := H
 refine Wsk 0 H hi7 rfl ?_
 intro S H
 refine ⟨(Xah (ld (H.get 1 rfl) rfl) (Xah (ld (H.get 1 rfl) rfl) (Xah (ld (H.get 1 rfl) rfl) Xa9))), ?_⟩
 refine wk _ rfl rfl rfl rfl ?_
 have Hh49222 := H
 refine Wsk 0 H hi7 rfl ?_
 intro S H
 refine ⟨(Xah (ld (H.get 1 rfl) rfl) (Xah (ld (H.get 1 rfl) rfl) (Xah (ld (H.get 1 rfl) rfl) Xa9))), ?_⟩
 refine WK.nil <| us 1 rfl <| Ws 0 H hi7 rfl ?_
 intro S H
 replace H : Hp [] [] _ [(i7, .cells [(.int .i64 y6), (.int .i64 y8.1), (.int .i64 y8.2), (.str y70.Body), (.int .i64 0), (.str []), (.int .i64 0), (.int .i64 0), (.int .i64 0), (.str []), (.str []), .nils, .nils, .nils, .nils, (.str []), (.bool false), (.bool false), (.str []), (.str y72.Body), (.str y74.Body), (.int .i64 0), (.str [])]), (i4, .cells (Xaa y3)), (i2, .cells z0_), (i1, .cells (Xaa a0))] [] [] := H
 refine A_ <| C_ ?_
 have h := oi h; subst h
 exact ⟨.nils, .nils, .nils, .nils, (Xam _), (Xam _), (Xam _), (Xam _), kn, (hs H), rfl⟩
 refine G_ rfl hc69 <| B_ <| us 2 rfl <| A_ ?_
 obtain ⟨y75, hy75, hOy75⟩ := Xaf h
 refine a_ (fun σ' S' e' => ∃ v76, ∃ v77, ∃ v78, ∃ v79, Xa8 eS y75.Filter.Subs v76 ∧ Xa8 Xan y75.Filter.Kids v77 ∧ Xa8 eS y75.Wants v78 ∧ Xa8 Xao y75.Mods v79 ∧ Xa2 ([(2, (.ptr i2 0)), (4, (.ptr i7 0))]) σ' ∧ Hp [] [] S' [(i7, .cells (XaO y75 v76 v77 v78 v79)), (i4, .cells (Xaa y3)), (i2, .cells z0_), (i1, .cells (Xaa a0))] [] [] ∧ e' = false) ?_ ?_
 replace h := hy75
 rcases Xa1 h with ⟨hc80, h⟩ | ⟨hc80, h⟩
 refine F_ rfl hc80 <| j_ <| wkl H 1 rfl rfl rfl rfl ?_
 obtain ⟨y81, hy81, h⟩ := Xaf h
 refine p_ (v := (.agg (Xaa y81))) rfl (nz rfl (n_ (vs := [(.agg (Xaa y3)), (.int .i64 0)]) rfl rfl (s94 _ hy81 (by simp only [Xax, List.map_cons, List.map_nil, Xap, Xaq, Xai, Xad, XaI, Xal]) _))) rfl ?_
 obtain ⟨y82, hy82, h⟩ := Xaf h
 refine p_ (v := .int .i64 y82) rfl (nz rfl (n_ (vs := [(.agg (Xaa y81))]) rfl rfl (s95 _ hy82 (by simp only [Xax, List.map_cons, List.map_nil, Xap, Xaq, Xai, Xad, Xal]) _))) rfl <| wkl H 1 rfl rfl rfl rfl ?_
 obtain ⟨y83, hy83, h⟩ := Xaf h
 refine p_ (v := (.agg (Xaa y83))) rfl (nz rfl (n_ (vs := [(.agg (Xaa y3)), (.int .i64 1)]) rfl rfl (s94 _ hy83 (by simp only [Xax, List.map_cons, List.map_nil, Xap, Xaq, Xai, Xad, XaI, Xal]) _))) rfl <| wk _ rfl rfl rfl rfl <| wk _ rfl rfl rfl rfl ?_
 have Hh49241 := H
 refine Wsk 0 H hi7 rfl ?_
 intro S H
 refine ⟨(Xah (ld (H.get 1 rfl) rfl) (Xah (ld (H.get 1 rfl) rfl) Xa9)), ?_⟩
 refine WK.nil <| us 1 rfl <| Ws 0 H hi7 rfl ?_
 intro S H
 replace H : Hp [] [] _ [(i7, .cells [(.int .i64 y6), (.int .i64 y8.1), (.int .i64 y8.2), (.str []), (.int .i64 0), (.str []), (.int .i64 0), (.int .i64 0), (.int .i64 0), (.str []), (.str []), .nils, .nils, .nils, .nils, (.str []), (.bool false), (.bool false), (.str []), (.str []), (.str []), (.int .i64 y82), (.str y83.Body)]), (i4, .cells (Xaa y3)), (i2, .cells z0_), (i1, .cells (Xaa a0))] [] [] := H
 refine A_ <| C_ ?_
 have h := oi h; subst h
 exact ⟨.nils, .nils, .nils, .nils, (Xam _), (Xam _), (Xam _), (Xam _), kn, (hs H), rfl⟩
 refine G_ rfl hc80 <| M_ <| C_ ?_
 have h := oi h; subst h
 exact ⟨.nils, .nils, .nils, .nils, (Xam _), (Xam _), (Xam _), (Xam _), kn, (hs H), rfl⟩
 rintro σ S e ⟨v76, v77, v78, v79, hv76, hv77, hv78, hv79, hk, H, rfl⟩
 replace h := hOy75
 refine J_ hk <| C_ ?_
 have h := oi h; subst h
 exact ⟨v76, v77, v78, v79, hv76, hv77, hv78, hv79, kn, (hs H), rfl⟩
 rintro σ S e ⟨v65, v66, v67, v68, hv65, hv66, hv67, hv68, hk, H, rfl⟩
 replace h := hOy64
 refine J_ hk <| C_ ?_
 have h := oi h; subst h
 exact ⟨v65, v66, v67, v68, hv65, hv66, hv67, hv68, kn, (hs H), rfl⟩
 rintro σ S e ⟨v54, v55, v56, v57, hv54, hv55, hv56, hv57, hk, H, rfl⟩
 replace h := hOy53
 refine J_ hk <| C_ ?_
 have h := oi h; subst h
 exact ⟨v54, v55, v56, v57, hv54, hv55, hv56, hv57, kn, (hs H), rfl⟩
 rintro σ S e ⟨v48, v49, v50, v51, hv48, hv49, hv50, hv51, hk, H, rfl⟩
 replace h := hOy47
 refine J_ hk <| C_ ?_
 have h := oi h; subst h
 exact ⟨v48, v49, v50, v51, hv48, hv49, hv50, hv51, kn, (hs H), rfl⟩
 rintro σ S e ⟨v39, v40, v41, v42, hv39, hv40, hv41, hv42, hk, H, rfl⟩
 replace h := hOy38
 refine J_ hk <| C_ ?_
 have h := oi h; subst h
 exact ⟨v39, v40, v41, v42, hv39, hv40, hv41, hv42, kn, (hs H), rfl⟩
 rintro σ S e ⟨v20, v21, v22, v23, hv20, hv21, hv22, hv23, hk, H, rfl⟩
 replace h := hOy19
 refine J_ hk <| C_ ?_
 have h := oi h; subst h
 exact ⟨v20, v21, v22, v23, hv20, hv21, hv22, hv23, kn, (hs H), rfl⟩
 rintro σ S e ⟨v10, v11, v12, v13, hv10, hv11, hv12, hv13, hk, H, rfl⟩
 replace h := hOy9
 refine J_ hk <| V_ <| C_ <| B_ <| Wg H 0 rfl <| Ws 2 H hi2 rfl ?_
 intro S H
 replace H : Hp [] [] _ [(i7, .cells (XaO y9 v10 v11 v12 v13)), (i4, .cells (Xaa y3)), (i2, .cells (XaO y9 v10 v11 v12 v13)), (i1, .cells (Xaa a0))] [] [] := H
 refine A_ <| Q_ ?_
 have h := oi h; subst h
 refine Z_ (vs := [(.agg (XaO y9 v10 v11 v12 v13))]) (Xa0 rfl (H.get 2 rfl) rfl Xas) (L_ rfl rfl) ?_
 exact (by simp only [Xa7, List.map_cons, List.map_nil, Xal, Xax, Xap, Xaq, hv10.strip1, hv11.strip1, hv12.strip1, hv13.strip1, XbN, XbH, Xak])
end Go.Proofs.YtbinlabnilidiaaGreatDoor.M
