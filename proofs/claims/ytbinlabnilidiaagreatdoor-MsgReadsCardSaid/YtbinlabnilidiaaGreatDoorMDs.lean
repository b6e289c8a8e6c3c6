/- Part of the proof: the runs of functions on the abstract machine. -/
import Derived.Test.YtbinlabnilidiaaGreatDoorPamM4
import Derived.Test.YtbinlabnilidiaaGreatDoorFns
import Derived.Test.YtbinlabnilidiaaGreatDoorMDe
import Derived.Test.YtbinlabnilidiaaGreatDoorMDc
import Derived.Test.YtbinlabnilidiaaGreatDoorMDc1
import Derived.Test.YtbinlabnilidiaaGreatDoorMDr
import Derived.Test.YtbinlabnilidiaaGreatDoorMDr1
import Derived.Test.YtbinlabnilidiaaGreatDoorMDw
import Derived.Test.YtbinlabnilidiaaGreatDoorMDv
import Derived.Test.YtbinlabnilidiaaGreatDoorMDd
import Derived.Test.YtbinlabnilidiaaGreatDoorMDd1
import Derived.Test.YtbinlabnilidiaaGreatDoorMDx
import Derived.Test.YtbinlabnilidiaaGreatDoorMDk
namespace Go.Proofs.YtbinlabnilidiaaGreatDoor.M
open Go Go.Pam Go.RowKit Go.WideShapes
set_option maxRecDepth 8000
set_option linter.unusedVariables false
set_option linter.unusedSimpArgs false
def F16 (k : Nat) (a0 : Str) : Option Bool :=
 (F15 k a0).bind fun y1 =>
 if y1.2 == 0 then
 (F10 k y1.1).bind fun y6 =>
 some ((y6.2 == 0) && (y6.1 == a0))
 else
 (F47 k a0).bind fun y8 =>
 (if y8.2.2.2 == 0 then
 some 14
 else
 some y8.2.2.2).bind fun y2 =>
 (if y1.2 == y2 then
 (F14 k y1.1 (Xay.mk 0 0 0 [] 0 [] 0 0 (Xae.mk 0 [] [] none none) none none [] false false [] [] [] 0 [])).bind fun y3 =>
 some y3
 else
 some false).bind fun y4 =>
 some y4
theorem s16 : ∀ k : Nat, ∀ {a0 : Str} {r : Bool}, F16 k a0 = some r → Q 16 [(.str a0)] (.bool r) := by
 intro k a0 r h
 unfold F16 at h
 refine Qg (pf := XvV) rfl rfl rfl fun H => ?_
 refine B_ <| us 1 rfl <| A_ <| B_ <| us 1 rfl ?_
 obtain ⟨y1, hy1, h⟩ := Xaf h
 refine Cl (.tup [(.agg (Xak y1.1)), (.int .i64 y1.2)]) [(.str a0)] rfl rfl (s15 _ hy1 rfl) <| us 3 rfl <| Wa (ti := XgD) H rfl ?_
 intro i2 S hi2 H
 refine Ws 0 H hi2 rfl ?_
 intro S H
 refine us 1 rfl <| A_ <| I_ <| B_ <| us 2 rfl <| A_ ?_
 rcases Xa1 h with ⟨hc3, h⟩ | ⟨hc3, h⟩
 refine F_ rfl hc3 <| B_ <| Wg H 0 rfl ?_
 obtain ⟨y6, hy6, h⟩ := Xaf h
 refine Cl (.tup [(.str y6.1), (.int .i64 y6.2)]) [(.agg (Xak y1.1))] rfl rfl (sv (s10 _ hy6)) <| us 5 rfl <| A_ <| B_ <| us 1 rfl <| w (.bool (y6.2 == 0)) rfl rfl <| w (.bool (y6.2 == 0)) rfl rfl ?_
 refine O_ 4 (SH H [(30, (.bool ((y6.2 == 0) && (y6.1 == a0))))]) ?_ ?_
 revert H
 cases hc7 : (y6.2 == 0)
 intro H
 refine us 4 rfl <| A_ ?_
 exact kf H
 intro H
 refine us 4 rfl <| A_ ?_
 exact kf H
 rintro σ S e ⟨hk, H, rfl⟩
 refine E_ hk <| us 1 rfl <| A_ <| Q_ <| H_ ?_
 have h := oi h; subst h
 exact Kr (.bool ((y6.2 == 0) && (y6.1 == a0))) rfl rfl
 refine G_ rfl hc3 <| M_ <| C_ <| B_ <| us 1 rfl ?_
 obtain ⟨y8, hy8, h⟩ := Xaf h
 refine Cl (.tup [(.agg (Xaa y8.1)), (.int .i64 y8.2.1), (.int .i64 y8.2.2.1), (.int .i64 y8.2.2.2)]) [(.str a0)] rfl rfl (s47 _ hy8 rfl) <| us 5 rfl <| Wa (ti := XbA) H rfl ?_
 intro i9 S hi9 H
 refine Ws 0 H hi9 rfl ?_
 intro S H
 refine us 3 rfl <| A_ <| B_ <| us 2 rfl <| A_ <| I_ <| B_ <| us 2 rfl <| A_ ?_
 obtain ⟨y4, hy4, hOy4⟩ := Xaf h
 refine a_ (SJ [(3, (.ptr i2 0)), (4, (.int .i64 y1.2)), (11, (.int .i64 y4))] [] [] [(i9, .cells (Xaa y8.1)), (i2, .cells (Xak y1.1))] [] [] false) ?_ ?_
 replace h := hy4
 rcases Xa1 h with ⟨hc5, h⟩ | ⟨hc5, h⟩
 refine F_ rfl hc5 <| S_ <| us 1 rfl <| A_ <| C_ ?_
 have h := oi h; subst h
 exact kh H
 refine G_ rfl hc5 <| M_ <| C_ ?_
 have h := oi h; subst h
 exact kh H
 rintro σ S e ⟨hk, H, rfl⟩
 replace h := hOy4
 refine J_ hk <| C_ <| B_ <| us 2 rfl <| w (.bool (y1.2 == y4)) rfl rfl <| w (.bool (y1.2 == y4)) rfl rfl ?_
 obtain ⟨y10, hy10, hOy10⟩ := Xaf h
 refine O_ 4 (SJ [(48, (.bool y10))] [] [] [(i9, .cells (Xaa y8.1)), (i2, .cells (Xak y1.1))] [] [] false) ?_ ?_
 replace h := hy10
 revert H
 cases hc11 : (y1.2 == y4)
 intro H
 replace h := Xc5 h hc11
 refine us 4 rfl <| A_ ?_
 have h := oi h; subst h
 exact kh H
 intro H
 replace h := Xc4 h hc11
 refine N_ rfl rfl <| Wg H 1 rfl <| N_ rfl rfl <| w (.agg z0_) rfl (nz rfl (XaH (ti := XgD) rfl rfl rfl rfl rfl rfl)) <| N_ rfl rfl ?_
 obtain ⟨y12, hy12, h⟩ := Xaf h
 refine Cl (.bool y12) [(.agg (Xak y1.1)), (.agg z0_)] rfl rfl (sv (s14 _ hy12)) <| us 1 rfl <| A_ ?_
 have h := oi h; subst h
 exact kh H
 rintro σ S e ⟨hk, H, rfl⟩
 replace h := hOy10
 refine E_ hk <| us 1 rfl <| A_ <| Q_ ?_
 have h := oi h; subst h
 exact Kr (.bool y10) rfl rfl
def F5 (k : Nat) (a0 : Xay) (a1 : Int) (a2 : Int) (a3 : Int) (a4 : Str) : Option Bool :=
 (F7 k ).bind fun y2 =>
 if !y2 then
 some false
 else
 (F8 k a0).bind fun y4 =>
 if (!y4) || (decide ((Str.len a4) > 600)) then
 some true
 else
 (F10 k a0).bind fun y7 =>
 (if (y7.2 == 0) && (decide ((Str.len y7.1) > 0)) then
 (Xl2 (cv .i64 a1) (Sl.len (Str.bytes y7.1))).bind fun z6 =>
 (Xl2 (cv .i64 a1) (Sl.len (Str.bytes y7.1))).bind fun z9 =>
 (Sl.at? (Str.bytes y7.1) z9).bind fun y10 =>
 (Sl.at? (Str.bytes y7.1) z6).bind fun y11 =>
 (F16 k (Str.of (Sl.set (Str.bytes y7.1) z6 (Xll .u8 y10 a3)))).bind fun y12 =>
 (if !y12 then
 some true
 else
 (Xl2 (cv .i64 a2) (Str.len y7.1)).bind fun z13 =>
 (Str.sub? y7.1 0 z13).bind fun z14 =>
 (F16 k z14).bind fun y15 =>
 some (!y15)).bind fun y16 =>
 (if y16 then
 some true
 else
 (Str.app? y7.1 (Str.of (some [a3]))).bind fun z17 =>
 (F16 k z17).bind fun y18 =>
 some (!y18)).bind fun y19 =>
 if y19 then
 some (Out.ret false)
 else
 some (Out.brk ())
 else
 some (Out.brk ())).bind fun y20 =>
 match y20 with
 | .ret r => some r
 | .brk y20b =>
 (F16 k a4).bind fun y21 =>
 some y21
theorem s5 : ∀ k : Nat, ∀ {a0 : Xay} {a1 : Int} {a2 : Int} {a3 : Int} {a4 : Str} {r : Bool}, F5 k a0 a1 a2 a3 a4 = some r → Q 5 [(.agg (Xak a0)), (.int .u16 a1), (.int .u16 a2), (.int .u8 a3), (.str a4)] (.bool r) := by
 intro k a0 a1 a2 a3 a4 r h
 unfold F5 at h
 refine Qg (pf := fn5) rfl cq rfl fun H => ?_
 refine B_ <| Wb H rfl ?_
 intro i1 S hi1 H
 refine us 1 rfl <| A_ <| I_ <| B_ ?_
 obtain ⟨y2, hy2, h⟩ := Xaf h
 refine Cl (.bool y2) [] rfl rfl (s7 _ hy2 rfl) <| us 1 rfl <| A_ ?_
 rcases Xa1 h with ⟨hc6, h⟩ | ⟨hc6, h⟩
 refine F_ rfl hc6 <| B_ <| us 1 rfl <| A_ <| Q_ <| H_ ?_
 have h := oi h; subst h
 exact Kr (.bool false) rfl rfl
 refine G_ rfl hc6 <| M_ <| C_ <| I_ <| B_ <| Wg H 0 rfl ?_
 obtain ⟨y4, hy4, h⟩ := Xaf h
 refine Cl (.bool y4) [(.agg (Xak a0))] rfl rfl (sv (s8 _ hy4)) <| w (.bool (!y4)) rfl rfl <| w (.bool (!y4)) rfl rfl ?_
 refine O_ 4 (SH H [(1, (.int .u16 a1)), (2, (.int .u16 a2)), (3, (.int .u8 a3)), (4, (.str a4)), (5, (.ptr i1 0)), (23, (.bool ((!y4) || (decide ((Str.len a4) > 600)))))]) ?_ ?_
 revert H
 cases hc5 : (!y4)
 intro H
 refine us 4 rfl <| A_ ?_
 exact kf H
 intro H
 refine us 4 rfl <| A_ ?_
 exact kf H
 rintro σ S e ⟨hk, H, rfl⟩
 refine E_ hk <| A_ ?_
 rcases Xa1 h with ⟨hc9, h⟩ | ⟨hc9, h⟩
 refine F_ rfl hc9 <| B_ <| us 1 rfl <| A_ <| Q_ <| H_ ?_
 have h := oi h; subst h
 exact Kr (.bool true) rfl rfl
 refine G_ rfl hc9 <| M_ <| C_ <| B_ <| Wg H 0 rfl ?_
 obtain ⟨y7, hy7, h⟩ := Xaf h
 refine Cl (.tup [(.str y7.1), (.int .i64 y7.2)]) [(.agg (Xak a0))] rfl rfl (sv (s10 _ hy7)) <| us 5 rfl <| A_ <| I_ <| B_ <| us 1 rfl <| w (.bool (y7.2 == 0)) rfl rfl <| w (.bool (y7.2 == 0)) rfl rfl ?_
 refine O_ 4 (SH H [(1, (.int .u16 a1)), (2, (.int .u16 a2)), (3, (.int .u8 a3)), (4, (.str a4)), (11, (.str y7.1)), (35, (.bool ((y7.2 == 0) && (decide ((Str.len y7.1) > 0)))))]) ?_ ?_
 revert H
 cases hc8 : (y7.2 == 0)
 intro H
 refine us 4 rfl <| A_ ?_
 exact kf H
 intro H
 refine us 4 rfl <| A_ ?_
 exact kf H
 rintro σ S e ⟨hk, H, rfl⟩
 refine E_ hk <| A_ ?_
 obtain ⟨y10, hy10, hOy10⟩ := Xaf h
 refine a_ (fun σ' S' e' => ∃ y10b, y10 = .brk y10b ∧ Xa2 ([(4, (.str a4))]) σ' ∧ Hp [] [] S' [(i1, .cells (Xak a0))] [] [] ∧ e' = false) ?_ ?_
 replace h := hy10
 rcases Xa1 h with ⟨hc11, h⟩ | ⟨hc11, h⟩
 refine F_ rfl hc11 <| B_ <| us 1 rfl <| WO.ex rfl (bzn rfl (Xkf rfl rfl rfl rfl H)) ?_
 rintro v12 S ⟨hv12, H⟩
 refine w v12 rfl rfl <| A_ <| I_ <| h_ <| wh _ rfl rfl <| wh _ rfl rfl <| wh _ rfl rfl <| wh _ rfl rfl <| k_ (v := (.int .i64 (Sl.len (Str.bytes y7.1)))) rfl (nz rfl (Xjt rfl hv12 rfl)) rfl rfl ?_
 obtain ⟨z13, hz13, h⟩ := Xaf h
 refine k_ (v := .int .i64 z13) rfl (nz rfl (XiP rfl rfl hz13)) rfl rfl <| wh _ rfl rfl <| wh _ rfl rfl <| wh _ rfl rfl <| wh _ rfl rfl <| k_ (v := (.int .i64 (Sl.len (Str.bytes y7.1)))) rfl (nz rfl (Xjt rfl hv12 rfl)) rfl rfl ?_
 obtain ⟨z14, hz14, h⟩ := Xaf h
 refine k_ (v := .int .i64 z14) rfl (nz rfl (XiP rfl rfl hz14)) rfl rfl ?_
 obtain ⟨y15, hy15, h⟩ := Xaf h
 obtain ⟨i16, hi16⟩ := IsW.id hv12 hy15
 refine k_ (v := (.ptr i16 (Int.toNat z14 * 1 + 0))) rfl (nz rfl (Xhv (sz := 1) rfl hv12 rfl rfl rfl hy15 hi16)) rfl rfl <| k_ (v := .int .u8 y15) rfl (nz rfl (XkA rfl (H.getW 0 rfl hi16) hy15 (D_ rfl) rfl)) rfl rfl <| wh _ rfl rfl <| wh _ rfl rfl <| f_ ?_
 obtain ⟨y17, hy17, h⟩ := Xaf h
 obtain ⟨i18, hi18⟩ := IsW.id hv12 hy17
 refine w (.ptr i18 (Int.toNat z13 * 1 + 0)) rfl (nz rfl (Xhv (sz := 1) rfl hv12 rfl rfl rfl hy17 hi18)) <| WO.storeW 0 (f := (eI .u8)) (u := (.int .u8 (Xll .u8 y15 a3))) (y' := Xll .u8 y15 a3) (xc := [(.int .u8 (Xll .u8 y15 a3))]) (e' := false) rfl rfl H rfl hi18 rfl rfl hy17 rfl rfl rfl rfl (D_ rfl) (D_ rfl) rfl (XiQ rfl) ?_
 intro S H
 have hw19 := IsW.set hv12 z13 (Xll .u8 y15 a3)
 refine A_ <| C_ <| B_ <| w v12 rfl rfl ?_
 obtain ⟨S, q20, H⟩ := IsW.frz (f := (eI .u8)) H 0 rfl hw19
 refine WS (v := (.str (Str.of (Sl.set (Str.bytes y7.1) z13 (Xll .u8 y15 a3))))) rfl (yz (fz_W q20 rfl) (Xb9 rfl (c_ _ _) rfl rfl rfl)) ?_
 obtain ⟨y21, hy21, h⟩ := Xaf h
 refine Cl (.bool y21) [(.str (Str.of (Sl.set (Str.bytes y7.1) z13 (Xll .u8 y15 a3))))] rfl rfl (s16 _ hy21 rfl) <| w (.bool (!y21)) rfl rfl <| w (.bool (!y21)) rfl rfl ?_
 obtain ⟨y22, hy22, hOy22⟩ := Xaf h
 refine O_ 10 (SJ [(3, (.int .u8 a3)), (4, (.str a4)), (11, (.str y7.1)), (69, (.bool y22))] [] [] [(i1, .cells (Xak a0))] [] [(v12, Xeo (eI .u8) 1 true (Sl.set (Str.bytes y7.1) z13 (Xll .u8 y15 a3)))] false) ?_ ?_
 replace h := hy22
 revert H
 cases hc23 : (!y21)
 intro H
 replace h := Xc5 h hc23
 refine us 5 rfl <| N_ rfl rfl ?_
 obtain ⟨z24, hz24, h⟩ := Xaf h
 refine w (.int .i64 z24) rfl (nz rfl (XiP rfl rfl hz24)) <| N_ rfl rfl ?_
 obtain ⟨z25, hz25, h⟩ := Xaf h
 refine w (.str z25) rfl (nz rfl (XcH rfl rfl rfl rfl hz25)) <| N_ rfl rfl ?_
 obtain ⟨y26, hy26, h⟩ := Xaf h
 refine Cl (.bool y26) [(.str z25)] rfl rfl (s16 _ hy26 rfl) <| us 2 rfl <| A_ ?_
 have h := oi h; subst h
 exact kh H
 intro H
 replace h := Xc4 h hc23
 refine us 10 rfl <| A_ ?_
 have h := oi h; subst h
 exact kh H
 rintro σ S e ⟨hk, H, rfl⟩
 replace h := hOy22
 refine E_ hk <| us 1 rfl ?_
 obtain ⟨y27, hy27, hOy27⟩ := Xaf h
 refine O_ 8 (SJ [(4, (.str a4)), (78, (.bool y27))] [] [] [(i1, .cells (Xak a0))] [] [(v12, Xeo (eI .u8) 1 true (Sl.set (Str.bytes y7.1) z13 (Xll .u8 y15 a3)))] false) ?_ ?_
 replace h := hy27
 revert H
 cases hc28 : y22
 intro H
 replace h := Xc5 h hc28
 refine us 2 rfl <| N_ rfl rfl <| WS rfl (nz rfl (Xaj (ys := [a3]) (f := (eI .u8)) (parts := [(0, (.int .u8 a3))]) rfl rfl rfl rfl rfl rfl (fc ⟨rfl, rfl⟩ (fun p hp => nomatch hp)) rfl)) ?_
 have hv29 : Xa8 (eI .u8) (some [a3]) _ := ⟨.full, rfl⟩
 refine N_ rfl rfl <| w (.str (Str.of (some [a3]))) rfl (nz (Xaw hv29.frz rfl) (Xb9 rfl hv29 rfl rfl rfl)) <| N_ rfl rfl ?_
 obtain ⟨z30, hz30, h⟩ := Xaf h
 refine w (.str z30) rfl (nz rfl (Xcc rfl rfl hz30)) <| N_ rfl rfl ?_
 obtain ⟨y31, hy31, h⟩ := Xaf h
 refine Cl (.bool y31) [(.str z30)] rfl rfl (s16 _ hy31 rfl) <| us 2 rfl <| A_ ?_
 have h := oi h; subst h
 exact kh H
 intro H
 replace h := Xc4 h hc28
 refine us 8 rfl <| A_ ?_
 have h := oi h; subst h
 exact kh H
 rintro σ S e ⟨hk, H, rfl⟩
 replace h := hOy27
 refine E_ hk <| A_ ?_
 rcases Xa1 h with ⟨hc32, h⟩ | ⟨hc32, h⟩
 refine F_ rfl hc32 <| B_ <| us 1 rfl <| A_ <| Q_ <| H_ ?_
 have h := oi h; subst h
 replace h := hOy10
 refine H_ ?_
 have h := oi h; subst h
 exact Kr (.bool false) rfl rfl
 refine G_ rfl hc32 <| M_ <| C_ ?_
 have h := oi h; subst h
 exact ⟨_, rfl, kn, (H.sub (.cons_cons _ .slnil) .slnil (.cons _ .slnil)), rfl⟩
 refine G_ rfl hc11 <| M_ <| C_ ?_
 have h := oi h; subst h
 exact ⟨_, rfl, kn, (hs H), rfl⟩
 rintro σ S e ⟨y10b, rfl, hk, H, rfl⟩
 replace h := hOy10
 dsimp only at h
 refine J_ hk <| C_ <| B_ <| us 1 rfl ?_
 obtain ⟨y33, hy33, h⟩ := Xaf h
 refine Cl (.bool y33) [(.str a4)] rfl rfl (s16 _ hy33 rfl) <| us 1 rfl <| A_ <| Q_ ?_
 have h := oi h; subst h
 exact Kr (.bool y33) rfl rfl
end Go.Proofs.YtbinlabnilidiaaGreatDoor.M
