/- Part of the proof: the runs of functions on the abstract machine. -/
import Derived.Test.YtbinlabnilidiaaGreatDoorPamM4
import Derived.Test.YtbinlabnilidiaaGreatDoorFns
import Derived.Test.YtbinlabnilidiaaGreatDoorMDe
import Derived.Test.YtbinlabnilidiaaGreatDoorMDc
import Derived.Test.YtbinlabnilidiaaGreatDoorMDc1
import Derived.Test.YtbinlabnilidiaaGreatDoorMDr
import Derived.Test.YtbinlabnilidiaaGreatDoorMDr1
import Derived.Test.YtbinlabnilidiaaGreatDoorMDw
import Derived.Test.YtbinlabnilidiaaGreatDoorMDd
import Derived.Test.YtbinlabnilidiaaGreatDoorMDd1
import Derived.Test.YtbinlabnilidiaaGreatDoorMDk
namespace Go.Proofs.YtbinlabnilidiaaGreatDoor.M
open Go Go.Pam Go.RowKit Go.WideShapes
set_option maxRecDepth 8000
set_option linter.unusedVariables false
set_option linter.unusedSimpArgs false

def F4 (k : Nat) (a0 : Api_Msg) (a1 : Api_Msg) : Option Bool :=
 Option.bind (F7 k ) fun y3 =>
 if !y3 then
 some false
 else
 Option.bind (F8 k a0) fun y5 =>
 Option.bind (if !y5 then
 some true
 else
 Option.bind (F8 k a1) fun y11 =>
 some (!y11)) fun y10 =>
 if y10 then
 some true
 else
 Option.bind (F9 k a0) fun y14 =>
 if y14.2 != 0 then
 some (y14.1 == [])
 else
 Option.bind (F9 k a1) fun y16 =>
 Option.bind (F15 k y14.1) fun y17 =>
 Option.bind (if y17.2 == 0 then
 Option.bind (F14 k a0 y17.1) fun y24 =>
 some y24
 else
 some false) fun y23 =>
 Option.bind (if y23 then
 Option.bind (if y16.2 != 0 then
 some true
 else
 Option.bind (F14 k a0 a1) fun y54 =>
 some ((y14.1 == y16.1) == y54)) fun y53 =>
 some y53
 else
 some false) fun y48 =>
 some y48
theorem s4 : ∀ k : Nat, ∀ {a0 : Api_Msg} {a1 : Api_Msg} {r : Bool}, F4 k a0 a1 = some r → Q 4 [(.agg (c_Api_Msg a0)), (.agg (c_Api_Msg a1))] (.bool r) := by
 intro k a0 a1 r h
 unfold F4 at h
 refine j_ (pf := fn4) rfl rfl (C_ rfl) (by simp [PV.clean, cleanL, clean_encSl clean_Api_Filter, clean_encSl clean_Api_Mod, clean_encSl clean_eS]) rfl rfl fun H => ?_
 refine B_ <| g_ rfl rfl rfl rfl rfl H ?_
 intro i1 S hi1 H
 refine g_ rfl rfl rfl rfl rfl H ?_
 intro i2 S hi2 H
 refine us 1 rfl <| A_ <| J_ <| B_ ?_
 obtain ⟨y3, hy3, h⟩ := bindS h
 refine cl (.bool y3) [] rfl rfl rfl rfl (s7 _ hy3 rfl) <| us 1 rfl <| A_ ?_
 rcases iteS h with ⟨hc59, h⟩ | ⟨hc59, h⟩
 refine G_ rfl hc59 <| B_ <| us 1 rfl <| A_ <| R_ <| I_ ?_
 have h := oi h; subst h
 exact kr (.bool false) rfl rfl rfl
 refine H_ rfl hc59 <| N_ <| D_ <| J_ <| B_ <| wg H 1 rfl rfl rfl rfl ?_
 obtain ⟨y5, hy5, h⟩ := bindS h
 refine cl (.bool y5) [(.agg (c_Api_Msg a0))] rfl rfl rfl rfl (sv (s8 _ hy5)) <| w (.bool (!y5)) rfl rfl <| w (.bool (!y5)) rfl rfl ?_
 obtain ⟨y10, hy10, hOy10⟩ := bindS h
 refine O_ 4 (SJ [(2, (.ptr i1 0)), (3, (.ptr i2 0)), (20, (.bool y10))] [] [] [(i2, .cells (c_Api_Msg a1)), (i1, .cells (c_Api_Msg a0))] [] [] false) ?_ ?_
 replace h := hy10
 revert H
 cases hc12 : (!y5)
 intro H
 replace h := iteF h hc12
 refine L_ rfl rfl <| wg H 0 rfl rfl rfl rfl <| L_ rfl rfl ?_
 obtain ⟨y11, hy11, h⟩ := bindS h
 refine cl (.bool y11) [(.agg (c_Api_Msg a1))] rfl rfl rfl rfl (sv (s8 _ hy11)) <| us 2 rfl <| A_ ?_
 have h := oi h; subst h
 exact kh H
 intro H
 replace h := iteT h hc12
 refine us 4 rfl <| A_ ?_
 have h := oi h; subst h
 exact kh H
 rintro σ S e ⟨hk, H, rfl⟩
 replace h := hOy10
 refine E_ hk <| A_ ?_
 rcases iteS h with ⟨hc58, h⟩ | ⟨hc58, h⟩
 refine G_ rfl hc58 <| B_ <| us 1 rfl <| A_ <| R_ <| I_ ?_
 have h := oi h; subst h
 exact kr (.bool true) rfl rfl rfl
 refine H_ rfl hc58 <| N_ <| D_ <| B_ <| wg H 1 rfl rfl rfl rfl ?_
 obtain ⟨y14, hy14, h⟩ := bindS h
 refine cl (.tup [(.str y14.1), (.int .i64 y14.2)]) [(.agg (c_Api_Msg a0))] rfl rfl rfl rfl (sv (s9 _ hy14)) <| us 5 rfl <| A_ <| J_ <| B_ <| us 2 rfl <| A_ ?_
 rcases iteS h with ⟨hc57, h⟩ | ⟨hc57, h⟩
 refine G_ rfl hc57 <| B_ <| us 3 rfl <| A_ <| R_ <| I_ ?_
 have h := oi h; subst h
 exact kr (.bool (y14.1 == [])) rfl rfl rfl
 refine H_ rfl hc57 <| N_ <| D_ <| B_ <| wg H 0 rfl rfl rfl rfl ?_
 obtain ⟨y16, hy16, h⟩ := bindS h
 refine cl (.tup [(.str y16.1), (.int .i64 y16.2)]) [(.agg (c_Api_Msg a1))] rfl rfl rfl rfl (sv (s9 _ hy16)) <| us 5 rfl <| A_ <| B_ <| us 1 rfl ?_
 obtain ⟨y17, hy17, h⟩ := bindS h
 refine cl (.tup [(.agg (c_Api_Msg y17.1)), (.int .i64 y17.2)]) [(.str y14.1)] rfl rfl rfl rfl (s15 _ hy17 rfl) <| us 3 rfl <| d_ (ti := ty28) rfl rfl rfl rfl H ?_
 intro i18 S hi18 H
 refine wos 0 H hi18 rfl rfl rfl rfl rfl rfl rfl rfl rfl rfl ?_
 intro S H
 replace H : Hp [] [] _ [(i18, .cells (c_Api_Msg y17.1)), (i2, .cells (c_Api_Msg a1)), (i1, .cells (c_Api_Msg a0))] [] [] := H
 refine us 1 rfl <| A_ <| B_ <| us 1 rfl <| w (.bool (y17.2 == 0)) rfl rfl <| w (.bool (y17.2 == 0)) rfl rfl ?_
 obtain ⟨y23, hy23, hOy23⟩ := bindS h
 refine O_ 4 (SJ [(2, (.ptr i1 0)), (3, (.ptr i2 0)), (5, (.str y14.1)), (7, (.str y16.1)), (8, (.int .i64 y16.2)), (46, (.bool y23))] [] [] [(i18, .cells (c_Api_Msg y17.1)), (i2, .cells (c_Api_Msg a1)), (i1, .cells (c_Api_Msg a0))] [] [] false) ?_ ?_
 replace h := hy23
 revert H
 cases hc25 : (y17.2 == 0)
 intro H
 replace h := iteF h hc25
 refine us 4 rfl <| A_ ?_
 have h := oi h; subst h
 exact kh H
 intro H
 replace h := iteT h hc25
 refine L_ rfl rfl <| wg H 2 rfl rfl rfl rfl <| L_ rfl rfl <| wg H 0 rfl rfl rfl rfl <| L_ rfl rfl ?_
 obtain ⟨y24, hy24, h⟩ := bindS h
 refine cl (.bool y24) [(.agg (c_Api_Msg a0)), (.agg (c_Api_Msg y17.1))] rfl rfl rfl rfl (sv (s14 _ hy24)) <| us 1 rfl <| A_ ?_
 have h := oi h; subst h
 exact kh H
 rintro σ S e ⟨hk, H, rfl⟩
 replace h := hOy23
 refine E_ hk <| us 1 rfl ?_
 obtain ⟨y48, hy48, hOy48⟩ := bindS h
 refine O_ 12 (SJ [(59, (.bool y48))] [] [] [(i18, .cells (c_Api_Msg y17.1)), (i2, .cells (c_Api_Msg a1)), (i1, .cells (c_Api_Msg a0))] [] [] false) ?_ ?_
 replace h := hy48
 revert H
 cases hc56 : y23
 intro H
 replace h := iteF h hc56
 refine us 3 rfl <| WO.by0 rfl rfl <| WO.by0 rfl rfl <| WO.by0 rfl rfl <| WO.by0 rfl rfl <| WO.by0 rfl rfl <| WO.by0 rfl rfl <| WO.by0 rfl rfl <| us 2 rfl <| A_ ?_
 have h := oi h; subst h
 exact kh H
 intro H
 replace h := iteT h hc56
 refine us 1 rfl <| L_ rfl rfl <| w (.bool (y16.2 != 0)) rfl rfl <| L_ rfl rfl <| w (.bool (y16.2 != 0)) rfl rfl ?_
 obtain ⟨y53, hy53, hOy53⟩ := bindS h
 refine O_ 8 (SJ [(47, (.bool true)), (58, (.bool y53))] [] [] [(i18, .cells (c_Api_Msg y17.1)), (i2, .cells (c_Api_Msg a1)), (i1, .cells (c_Api_Msg a0))] [] [] false) ?_ ?_
 replace h := hy53
 revert H
 cases hc55 : (y16.2 != 0)
 intro H
 replace h := iteF h hc55
 refine us 3 rfl <| L_ rfl rfl <| wg H 2 rfl rfl rfl rfl <| L_ rfl rfl <| wg H 1 rfl rfl rfl rfl <| L_ rfl rfl ?_
 obtain ⟨y54, hy54, h⟩ := bindS h
 refine cl (.bool y54) [(.agg (c_Api_Msg a0)), (.agg (c_Api_Msg a1))] rfl rfl rfl rfl (sv (s14 _ hy54)) <| us 2 rfl <| A_ ?_
 have h := oi h; subst h
 exact kh H
 intro H
 replace h := iteT h hc55
 refine us 8 rfl <| A_ ?_
 have h := oi h; subst h
 exact kh H
 rintro σ S e ⟨hk, H, rfl⟩
 replace h := hOy53
 refine E_ hk <| us 1 rfl <| A_ ?_
 have h := oi h; subst h
 exact kh H
 rintro σ S e ⟨hk, H, rfl⟩
 replace h := hOy48
 refine E_ hk <| us 1 rfl <| A_ <| R_ ?_
 have h := oi h; subst h
 exact kr (.bool y48) rfl rfl rfl
end Go.Proofs.YtbinlabnilidiaaGreatDoor.M
