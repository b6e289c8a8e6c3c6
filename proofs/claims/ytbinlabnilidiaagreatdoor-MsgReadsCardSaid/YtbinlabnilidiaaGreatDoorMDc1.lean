/- Part of the proof: the runs of functions on the abstract machine. -/
import Derived.Test.YtbinlabnilidiaaGreatDoorPamM4
import Derived.Test.YtbinlabnilidiaaGreatDoorFns
import Derived.Test.YtbinlabnilidiaaGreatDoorMDe
import Derived.Test.YtbinlabnilidiaaGreatDoorMDc
namespace Go.Proofs.YtbinlabnilidiaaGreatDoor.M
open Go Go.Pam Go.RowKit Go.WideShapes
set_option maxRecDepth 8000
set_option linter.unusedVariables false
set_option linter.unusedSimpArgs false
def F66 (k : Nat) (a0 : Str) : Option Bool :=
 some (decide ((Str.len a0) > 400))
theorem s66 : ∀ k : Nat, ∀ {a0 : Str} {r : Bool}, F66 k a0 = some r → Q 66 [(.str a0)] (.bool r) := by
 intro k a0 r h
 unfold F66 at h
 refine Qg (pf := XvZ) rfl rfl rfl fun H => ?_
 refine B_ <| us 1 rfl <| A_ <| B_ <| us 4 rfl <| A_ <| Q_ ?_
 cases oi h
 exact Kr (.bool (decide ((Str.len a0) > 400))) rfl rfl
def Xcy (k : Nat) (a0 : Sl Str) (a1 : Int) : Nat → Int → Option (Out Int Int)
 | 0, _ => none
 | n + 1, x2 =>
  if decide (x2 < a1) then
  (Sl.at? a0 x2).bind fun y3 =>
  (F66 k y3).bind fun y4 =>
  if y4 then
  some (Out.ret x2)
  else
  Xcy k a0 a1 n (ad .i64 x2 1)
  else
  some (Out.brk x2)
def Xin (k : Nat) (a0 : Sl Str) : Option Int :=
 (Xcy k a0 (Sl.len a0) k 0).bind fun y1 =>
 match y1 with
 | .ret y1r => some y1r
 | .brk y1b =>
 some (-1)
theorem XkH {k : Nat} {a1 : Sl Str} {a2 : Int} {S0 : List SObj} {R : List Nat} {K : KX}  {o : Out Int Int}
  (hret : ∀ r : Int, o = .ret r → EK [(4, (.int .i64 r))] S0 R [] [] [] (K .ret))
  (hbrk : ∀ y : Int, o = .brk y → EK [] S0 R [] [] [] (K (.exit 0))) :
  ∀ {n : Nat} {x3 : Int}, Xcy k a1 a2 n x3 = some o → ∀ {σ : Nat → PV} {S : List SObj}, Xa2 [(0, (Xar eS a1)), (1, (.fn (.func 66) [] [])), (7, (.int .i64 a2)), (8, (.int .i64 x3))] σ → Hp S0 R S [] [] [] → WC env ⟨19, S0.length⟩ (.loop XpE) σ S false K := by
 intro n
 induction n with
 | zero => intro _ h; cases h
 | succ n ih =>
  intro x3 h σ S  hk H
  rw [Xcy] at h
  refine b_ <| X_ hk <| B_ <| us 1 rfl <| A_ <| I_ ?_
  rcases Xa1 h with ⟨hc4, h⟩ | ⟨hc4, h⟩
  refine F_ rfl hc4 <| M_ <| C_ <| I_ <| R_ <| B_ <| us 2 rfl <| A_ <| B_ <| us 3 rfl ?_
  obtain ⟨y5, hy5, h⟩ := Xaf h
  refine Wx hy5 rfl rfl <| us 1 rfl ?_
  obtain ⟨y6, hy6, h⟩ := Xaf h
  refine Cl (.bool y6) [(.str y5)] rfl rfl (s66 _ hy6 rfl) <| A_ ?_
  rcases Xa1 h with ⟨hc7, h⟩ | ⟨hc7, h⟩
  refine F_ rfl hc7 <| B_ <| us 2 rfl <| A_ <| Q_ <| P_ <| H_ <| H_ ?_
  cases oi h
  exact hret _ rfl kn (hs H)
  refine G_ rfl hc7 <| M_ <| V_ <| C_ <| S_ <| us 2 rfl <| A_ <| C_ ?_
  exact ih h  kn (hs H)
  refine G_ rfl hc4 <| Y_ <| K_ <| K_ ?_
  cases oi h
  exact hbrk _ rfl  m_ (hs H)
theorem Xsq : ∀ k : Nat, ∀ {a0 : Sl Str} {r : Int}, Xin k a0 = some r → Q 85 [(Xar eS a0), (.fn (.func 66) [] [])] (.int .i64 r) := by
 intro k a0 r h
 unfold Xin at h
 refine Qg (pf := Xuv) rfl cq rfl fun H => ?_
 refine B_ <| us 1 rfl <| A_ <| I_ <| B_ <| us 1 rfl <| Wl rfl <| us 1 rfl <| A_ ?_
 obtain ⟨y1, hy1, hOy1⟩ := Xaf h
 refine R_ ?_
 refine XkH ?_ ?_ hy1  kn (hs H)
 intro y1r he σ S  hk H; subst he; replace h := hOy1; dsimp only at h
 refine J_ hk <| P_ <| H_ ?_
 have h := oi h; subst h
 exact Kr (.int .i64 y1r) rfl rfl
 intro y1b he σ S  hk H; subst he; replace h := hOy1; dsimp only at h
 refine J_ hk <| U_ <| C_ <| B_ <| us 1 rfl <| A_ <| Q_ ?_
 have h := oi h; subst h
 exact Kr (.int .i64 (-1)) rfl rfl
def Xio (k : Nat) (a0 : Sl Str) : Option Bool :=
 (Xin k a0).bind fun y1 =>
 some (decide (y1 ≥ 0))
theorem Xsr : ∀ k : Nat, ∀ {a0 : Sl Str} {r : Bool}, Xio k a0 = some r → Q 65 [(Xar eS a0), (.fn (.func 66) [] [])] (.bool r) := by
 intro k a0 r h
 unfold Xio at h
 refine Qg (pf := Xux) rfl cq rfl fun H => ?_
 refine B_ <| us 1 rfl <| A_ <| B_ <| us 2 rfl ?_
 obtain ⟨y1, hy1, h⟩ := Xaf h
 refine Cl (.int .i64 y1) [(Xar eS a0), (.fn (.func 66) [] [])] rfl (fe rfl (Xaw rfl rfl)) (sv (Xsq _ hy1)) <| us 2 rfl <| A_ <| Q_ ?_
 cases oi h
 exact Kr (.bool (decide (y1 ≥ 0))) rfl rfl
def F31 (k : Nat) (a0 : Sl Str) : Option Bool :=
 (Xio k a0).bind fun y1 =>
 some (!y1)
theorem s31 : ∀ k : Nat, ∀ {a0 : Sl Str} {r : Bool}, F31 k a0 = some r → Q 31 [(Xar eS a0)] (.bool r) := by
 intro k a0 r h
 unfold F31 at h
 refine Qg (pf := Xuz) rfl cq rfl fun H => ?_
 refine B_ <| us 1 rfl <| A_ <| B_ <| us 1 rfl ?_
 obtain ⟨y1, hy1, h⟩ := Xaf h
 refine Cl (.bool y1) [(Xar eS a0), (.fn (.func 66) [] [])] rfl (fe rfl (fo rfl rfl)) (sv (Xsr _ hy1)) <| us 2 rfl <| A_ <| Q_ ?_
 cases oi h
 exact Kr (.bool (!y1)) rfl rfl
def F86 (k : Nat) (a0 : Int) : Option Bool :=
 some ((decide (a0 ≥ 1)) && (decide (a0 ≤ 3)))
theorem s86 : ∀ k : Nat, ∀ {a0 : Int} {r : Bool}, F86 k a0 = some r → Q 86 [(.int .i64 a0)] (.bool r) := by
 intro k a0 r h
 unfold F86 at h
 refine Qg (pf := Xu1) rfl rfl rfl fun H => ?_
 refine B_ <| us 1 rfl <| A_ <| B_ <| us 1 rfl <| w (.bool (decide (a0 ≥ 1))) rfl rfl <| w (.bool (decide (a0 ≥ 1))) rfl rfl ?_
 refine O_ 3 (SH H [(8, (.bool ((decide (a0 ≥ 1)) && (decide (a0 ≤ 3)))))]) ?_ ?_
 revert H
 cases hc1 : (decide (a0 ≥ 1))
 intro H
 refine us 3 rfl <| A_ ?_
 exact kf H
 intro H
 refine us 3 rfl <| A_ ?_
 exact kf H
 rintro σ S e ⟨hk, H, rfl⟩
 refine E_ hk <| us 1 rfl <| A_ <| Q_ ?_
 cases oi h
 exact Kr (.bool ((decide (a0 ≥ 1)) && (decide (a0 ≤ 3)))) rfl rfl
def Xe6 (rc0 : Xae → Option Int) (k : Nat) (a1 : Xae) : Nat → Int → Int → Option (Int × Int)
 | 0, _, _ => none
 | n + 1, x2, x3 =>
  (F86 k a1.Kind).bind fun y4 =>
  if (y4 && (decide (x3 < (Sl.len a1.Kids)))) && (decide (x2 ≤ 20)) then
  (Sl.at? a1.Kids x3).bind fun y5 =>
  (rc0 y5).bind fun y6 =>
  Xe6 rc0 k a1 n (ad .i64 x2 y6) (ad .i64 x3 1)
  else
  some (x2, x3)
def F67 : Nat → Xae → Option Int
 | 0, _ => none
 | k + 1, a0 =>
  (Xe6 (F67 k) k a0 k 1 0).bind fun y1 =>
  some (Xkb y1.1 21)
theorem Xss {rc0 : Xae → Option Int} (hrc0 : ∀ {a0 : Xae} {r : Int}, rc0 a0 = some r → Q 67 [(.agg (Xag a0))] (.int .i64 r)) {k : Nat} {a2 : Xae} {S0 : List SObj} {R : List Nat} {K : KX} {i1 : Nat} (hi1 : S0.length ≤ i1)  {o : (Int × Int)}
  (hbrk : EK [(3, (.int .i64 o.1))] S0 R [(i1, .cells (Xag a2))] [] [] (K (.exit 0))) :
  ∀ {n : Nat} {x3 : Int} {x4 : Int}, Xe6 rc0 k a2 n x3 x4 = some o → ∀ {σ : Nat → PV} {S : List SObj}, Xa2 [(1, (.ptr i1 0)), (3, (.int .i64 x3)), (4, (.int .i64 x4))] σ → Hp S0 R S [(i1, .cells (Xag a2))] [] [] → WC env ⟨31, S0.length⟩ (.loop XpK) σ S false K := by
 intro n
 induction n with
 | zero => intro _ _ h; cases h
 | succ n ih =>
  intro x3 x4 h σ S  hk H
  rw [Xe6] at h
  refine b_ <| X_ hk <| I_ <| B_ <| us 1 rfl <| Wg H 0 rfl ?_
  obtain ⟨y5, hy5, h⟩ := Xaf h
  refine Cl (.bool y5) [(.int .i64 a2.Kind)] rfl rfl (s86 _ hy5 rfl) <| us 1 rfl ?_
  refine O_ 6 (SH H [(1, (.ptr i1 0)), (3, (.int .i64 x3)), (4, (.int .i64 x4)), (14, (.bool (y5 && (decide (x4 < (Sl.len a2.Kids))))))]) ?_ ?_
  revert H
  cases hc6 : y5
  intro H
  refine us 6 rfl <| A_ ?_
  exact kf H
  intro H
  refine us 2 rfl <| N_ rfl rfl <| Wg H 0 rfl <| N_ rfl rfl <| Wl rfl <| us 2 rfl <| A_ ?_
  exact kf H
  rintro σ S e ⟨hk, H, rfl⟩
  refine E_ hk <| w (.bool (y5 && (decide (x4 < (Sl.len a2.Kids))))) rfl rfl ?_
  refine O_ 3 (SH H [(1, (.ptr i1 0)), (3, (.int .i64 x3)), (4, (.int .i64 x4)), (18, (.bool ((y5 && (decide (x4 < (Sl.len a2.Kids)))) && (decide (x3 ≤ 20)))))]) ?_ ?_
  revert H
  cases hc7 : (y5 && (decide (x4 < (Sl.len a2.Kids))))
  intro H
  refine us 3 rfl <| A_ ?_
  exact kf H
  intro H
  refine us 3 rfl <| A_ ?_
  exact kf H
  rintro σ S e ⟨hk, H, rfl⟩
  refine E_ hk <| A_ ?_
  rcases Xa1 h with ⟨hc8, h⟩ | ⟨hc8, h⟩
  refine F_ rfl hc8 <| M_ <| C_ <| I_ <| R_ <| S_ <| us 2 rfl <| Wg H 0 rfl <| us 1 rfl ?_
  obtain ⟨y9, hy9, h⟩ := Xaf h
  refine Wx hy9 (XaA _) rfl <| us 1 rfl ?_
  obtain ⟨y10, hy10, h⟩ := Xaf h
  refine Cl (.int .i64 y10) [(.agg (Xag y9))] rfl rfl (sv (hrc0 hy10)) <| us 2 rfl <| A_ <| V_ <| C_ <| S_ <| us 3 rfl <| A_ <| C_ ?_
  exact ih h  kn (hs H)
  refine G_ rfl hc8 <| Y_ <| K_ <| K_ ?_
  cases oi h
  exact hbrk  kn (hs H)
theorem s67 : ∀ k : Nat, ∀ {a0 : Xae} {r : Int}, F67 k a0 = some r → Q 67 [(.agg (Xag a0))] (.int .i64 r) := by
 intro k
 induction k with
 | zero => intro _ r h; cases h
 | succ k ih =>
  intro a0 r h
  rw [F67] at h
  refine Qg (pf := Xu2) rfl cq rfl fun H => ?_
  refine B_ <| Wb H rfl ?_
  intro i1 S hi1 H
  refine us 1 rfl <| A_ <| B_ <| us 1 rfl <| A_ <| I_ <| B_ <| us 1 rfl <| A_ ?_
  obtain ⟨y2, hy2, hOy2⟩ := Xaf h
  refine R_ ?_
  refine Xss ih hi1 ?_ hy2  kn (hs H)
  intro σ S  hk H; replace h := hOy2
  refine J_ hk <| U_ <| C_ <| B_ <| us 3 rfl <| A_ <| Q_ ?_
  cases oi h
  exact Kr (.int .i64 (Xkb y2.1 21)) rfl rfl
def F88 (k : Nat) (rc0 : Xae → Option Bool) (a0 : Xae) : Option Bool :=
 (rc0 a0).bind fun y2 =>
 some (!y2)
theorem s88 {rc0 : Xae → Option Bool} (hrc0 : ∀ {a0 : Xae} {r : Bool}, rc0 a0 = some r → Q 68 [(.agg (Xag a0))] (.bool r))  : ∀ k : Nat, ∀ {a0 : Xae} {r : Bool}, F88 k rc0 a0 = some r → Q 88 [(.agg (Xag a0))] (.bool r) := by
 intro k a0 r h
 unfold F88 at h
 refine Qg (pf := Xwd) rfl cq rfl fun H => ?_
 refine B_ <| Wb H rfl ?_
 intro i1 S hi1 H
 refine us 1 rfl <| A_ <| B_ <| Wg H 0 rfl ?_
 obtain ⟨y2, hy2, h⟩ := Xaf h
 refine Cl (.bool y2) [(.agg (Xag a0))] rfl rfl (sv (hrc0 hy2)) <| us 2 rfl <| A_ <| Q_ ?_
 cases oi h
 exact Kr (.bool (!y2)) rfl rfl
def Xcd (rc0 : Xae → Option Bool) (k : Nat) (a1 : Sl Xae) (a2 : Int) : Nat → Int → Option (Out Int Int)
 | 0, _ => none
 | n + 1, x3 =>
  if decide (x3 < a2) then
  (Sl.at? a1 x3).bind fun y4 =>
  (F88 k rc0 y4).bind fun y5 =>
  if y5 then
  some (Out.ret x3)
  else
  Xcd rc0 k a1 a2 n (ad .i64 x3 1)
  else
  some (Out.brk x3)
def Xhw (k : Nat) (rc0 : Xae → Option Bool) (a0 : Sl Xae) : Option Int :=
 (Xcd rc0 k a0 (Sl.len a0) k 0).bind fun y1 =>
 match y1 with
 | .ret y1r => some y1r
 | .brk y1b =>
 some (-1)
theorem Xki {rc0 : Xae → Option Bool} (hrc0 : ∀ {a0 : Xae} {r : Bool}, rc0 a0 = some r → Q 68 [(.agg (Xag a0))] (.bool r)) {k : Nat} {a1 : Sl Xae} {a2 : Int} {S0 : List SObj} {R : List Nat} {K : KX}  {o : Out Int Int}
  (hret : ∀ r : Int, o = .ret r → EK [(4, (.int .i64 r))] S0 R [] [] [] (K .ret))
  (hbrk : ∀ y : Int, o = .brk y → EK [] S0 R [] [] [] (K (.exit 0))) :
  ∀ {n : Nat} {x3 : Int}, Xcd rc0 k a1 a2 n x3 = some o → ∀ {σ : Nat → PV} {S : List SObj}, Xa2 [(0, (Xar Xan a1)), (1, (.fn (.func 88) [] [])), (7, (.int .i64 a2)), (8, (.int .i64 x3))] σ → Hp S0 R S [] [] [] → WC env ⟨19, S0.length⟩ (.loop XmY) σ S false K := by
 intro n
 induction n with
 | zero => intro _ h; cases h
 | succ n ih =>
  intro x3 h σ S  hk H
  rw [Xcd] at h
  refine b_ <| X_ hk <| B_ <| us 1 rfl <| A_ <| I_ ?_
  rcases Xa1 h with ⟨hc4, h⟩ | ⟨hc4, h⟩
  refine F_ rfl hc4 <| M_ <| C_ <| I_ <| R_ <| B_ <| us 2 rfl <| A_ <| B_ <| us 3 rfl ?_
  obtain ⟨y5, hy5, h⟩ := Xaf h
  refine Wx hy5 (XaA _) rfl <| us 1 rfl ?_
  obtain ⟨y6, hy6, h⟩ := Xaf h
  refine Cl (.bool y6) [(.agg (Xag y5))] rfl rfl (sv (s88 hrc0 _ hy6)) <| A_ ?_
  rcases Xa1 h with ⟨hc7, h⟩ | ⟨hc7, h⟩
  refine F_ rfl hc7 <| B_ <| us 2 rfl <| A_ <| Q_ <| P_ <| H_ <| H_ ?_
  cases oi h
  exact hret _ rfl kn (hs H)
  refine G_ rfl hc7 <| M_ <| V_ <| C_ <| S_ <| us 2 rfl <| A_ <| C_ ?_
  exact ih h  kn (hs H)
  refine G_ rfl hc4 <| Y_ <| K_ <| K_ ?_
  cases oi h
  exact hbrk _ rfl  m_ (hs H)
theorem Xof {rc0 : Xae → Option Bool} (hrc0 : ∀ {a0 : Xae} {r : Bool}, rc0 a0 = some r → Q 68 [(.agg (Xag a0))] (.bool r))  : ∀ k : Nat, ∀ {a0 : Sl Xae} {r : Int}, Xhw k rc0 a0 = some r → Q 106 [(Xar Xan a0), (.fn (.func 88) [] [])] (.int .i64 r) := by
 intro k a0 r h
 unfold Xhw at h
 refine Qg (pf := XmZ) rfl cq rfl fun H => ?_
 refine B_ <| us 1 rfl <| A_ <| I_ <| B_ <| us 1 rfl <| Wl rfl <| us 1 rfl <| A_ ?_
 obtain ⟨y1, hy1, hOy1⟩ := Xaf h
 refine R_ ?_
 refine Xki hrc0 ?_ ?_ hy1  kn (hs H)
 intro y1r he σ S  hk H; subst he; replace h := hOy1; dsimp only at h
 refine J_ hk <| P_ <| H_ ?_
 have h := oi h; subst h
 exact Kr (.int .i64 y1r) rfl rfl
 intro y1b he σ S  hk H; subst he; replace h := hOy1; dsimp only at h
 refine J_ hk <| U_ <| C_ <| B_ <| us 1 rfl <| A_ <| Q_ ?_
 have h := oi h; subst h
 exact Kr (.int .i64 (-1)) rfl rfl
def Xga (k : Nat) (rc0 : Xae → Option Bool) (a0 : Sl Xae) : Option Bool :=
 (Xhw k rc0 a0).bind fun y1 =>
 some (decide (y1 ≥ 0))
theorem Xmr {rc0 : Xae → Option Bool} (hrc0 : ∀ {a0 : Xae} {r : Bool}, rc0 a0 = some r → Q 68 [(.agg (Xag a0))] (.bool r))  : ∀ k : Nat, ∀ {a0 : Sl Xae} {r : Bool}, Xga k rc0 a0 = some r → Q 87 [(Xar Xan a0), (.fn (.func 88) [] [])] (.bool r) := by
 intro k a0 r h
 unfold Xga at h
 refine Qg (pf := Xu5) rfl cq rfl fun H => ?_
 refine B_ <| us 1 rfl <| A_ <| B_ <| us 2 rfl ?_
 obtain ⟨y1, hy1, h⟩ := Xaf h
 refine Cl (.int .i64 y1) [(Xar Xan a0), (.fn (.func 88) [] [])] rfl (fe rfl (Xaw rfl rfl)) (sv (Xof hrc0 _ hy1)) <| us 2 rfl <| A_ <| Q_ ?_
 cases oi h
 exact Kr (.bool (decide (y1 ≥ 0))) rfl rfl
def Xff (k : Nat) (a0 : Sl Int) (a1 : Int) : Nat → Int → Option (Out Bool Int)
 | 0, _ => none
 | n + 1, x2 =>
  if decide (x2 < a1) then
  (Sl.at? a0 x2).bind fun y3 =>
  (if (decide (y3 ≥ 97)) && (decide (y3 ≤ 122)) then
  some (Out.brk ())
  else
  (if (decide (y3 ≥ 48)) && (decide (y3 ≤ 57)) then
  some ((decide (y3 ≥ 48)) && (decide (y3 ≤ 57)))
  else
  some (y3 == 45)).bind fun y4 =>
  if y4 then
  some (Out.brk ())
  else
  some (Out.ret (Out.ret false))).bind fun y5 =>
  match y5 with
  | .ret r => some r
  | .brk y5b =>
  Xff k a0 a1 n (ad .i64 x2 1)
  else
  some (Out.brk x2)
def F89 (k : Nat) (a0 : Str) : Option Bool :=
 (if (a0 == []) || (decide ((Str.len a0) > 16)) then
 some true
 else
 (Str.at? a0 0).bind fun c7 =>
 some (decide (c7 < 97))).bind fun y6 =>
 (if y6 then
 some true
 else
 (Str.at? a0 0).bind fun c1 =>
 some (decide (c1 > 122))).bind fun y2 =>
 if y2 then
 some false
 else
 (Xff k (Str.bytes a0) (Sl.len (Str.bytes a0)) k 0).bind fun y3 =>
 match y3 with
 | .ret y3r => some y3r
 | .brk y3b =>
 some true
theorem Xst {k : Nat} {a1 : Sl Int} {a2 : Int} {S0 : List SObj} {R : List Nat} {K : KX} {v3 : PV} (hv3 : Xa8 (eI .u8) a1 v3)  {o : Out Bool Int}
  (hret : ∀ r : Bool, o = .ret r → EK [(2, (.bool r))] S0 R [] [] [] (K .ret))
  (hbrk : ∀ y : Int, o = .brk y → EK [] S0 R [] [] [] (K (.exit 0))) :
  ∀ {n : Nat} {x4 : Int}, Xff k a1 a2 n x4 = some o → ∀ {σ : Nat → PV} {S : List SObj}, Xa2 [(23, v3), (24, (.int .i64 a2)), (25, (.int .i64 x4))] σ → Hp S0 R S [] [] [] → WC env ⟨46, S0.length⟩ (.loop XpO) σ S false K := by
 intro n
 induction n with
 | zero => intro _ h; cases h
 | succ n ih =>
  intro x4 h σ S  hk H
  rw [Xff] at h
  refine b_ <| X_ hk <| B_ <| us 1 rfl <| A_ <| I_ ?_
  rcases Xa1 h with ⟨hc5, h⟩ | ⟨hc5, h⟩
  refine F_ rfl hc5 <| M_ <| C_ <| I_ <| R_ <| B_ ?_
  obtain ⟨y6, hy6, h⟩ := Xaf h
  refine w (.iptr [(.int .u8 y6)] 0) rfl (nz rfl (Xbv rfl hv3 rfl rfl rfl hy6 rfl rfl)) <| us 2 rfl <| A_ ?_
  obtain ⟨y7, hy7, hOy7⟩ := Xaf h
  refine a_ (fun σ' S' e' => ∃ y7b, y7 = .brk y7b ∧ Xa2 ([(23, v3), (24, (.int .i64 a2)), (25, (.int .i64 x4))]) σ' ∧ Hp S0 R S' [] [] [] ∧ e' = false) ?_ ?_
  replace h := hy7
  refine R_ <| I_ <| R_ <| I_ <| R_ <| R_ <| I_ <| I_ <| B_ <| us 1 rfl <| w (.bool (decide (y6 ≥ 97))) rfl rfl <| w (.bool (decide (y6 ≥ 97))) rfl rfl ?_
  refine O_ 3 (SH H [(4, (.int .u8 y6)), (23, v3), (24, (.int .i64 a2)), (25, (.int .i64 x4)), (35, (.bool ((decide (y6 ≥ 97)) && (decide (y6 ≤ 122)))))]) ?_ ?_
  revert H
  cases hc8 : (decide (y6 ≥ 97))
  intro H
  refine us 3 rfl <| A_ ?_
  exact kf H
  intro H
  refine us 3 rfl <| A_ ?_
  exact kf H
  rintro σ S e ⟨hk, H, rfl⟩
  refine E_ hk <| us 1 rfl <| A_ ?_
  rcases Xa1 h with ⟨hc9, h⟩ | ⟨hc9, h⟩
  refine F_ rfl hc9 <| Y_ <| K_ <| K_ <| U_ <| V_ <| C_ <| Y_ <| W_ rfl <| K_ <| U_ <| C_ ?_
  cases oi h
  exact ⟨_, rfl, kn, (hs H), rfl⟩
  refine G_ rfl hc9 <| M_ <| C_ <| I_ <| B_ <| us 1 rfl <| w (.bool (decide (y6 ≥ 48))) rfl rfl <| w (.bool (decide (y6 ≥ 48))) rfl rfl ?_
  refine O_ 3 (SH H [(4, (.int .u8 y6)), (23, v3), (24, (.int .i64 a2)), (25, (.int .i64 x4)), (42, (.bool ((decide (y6 ≥ 48)) && (decide (y6 ≤ 57)))))]) ?_ ?_
  revert H
  cases hc10 : (decide (y6 ≥ 48))
  intro H
  refine us 3 rfl <| A_ ?_
  exact kf H
  intro H
  refine us 3 rfl <| A_ ?_
  exact kf H
  rintro σ S e ⟨hk, H, rfl⟩
  refine E_ hk <| us 1 rfl <| A_ ?_
  obtain ⟨y11, hy11, hOy11⟩ := Xaf h
  refine a_ (SJ [(23, v3), (24, (.int .i64 a2)), (25, (.int .i64 x4)), (36, (.bool y11))] S0 R [] [] [] false) ?_ ?_
  replace h := hy11
  rcases Xa1 h with ⟨hc12, h⟩ | ⟨hc12, h⟩
  refine F_ rfl hc12 <| M_ <| C_ ?_
  cases oi h
  exact kh H
  refine G_ rfl hc12 <| S_ <| us 3 rfl <| A_ <| C_ ?_
  cases oi h
  exact kh H
  rintro σ S e ⟨hk, H, rfl⟩
  replace h := hOy11
  refine J_ hk <| C_ ?_
  rcases Xa1 h with ⟨hc13, h⟩ | ⟨hc13, h⟩
  refine F_ rfl hc13 <| Y_ <| K_ <| W_ rfl <| U_ <| C_ <| Y_ <| W_ rfl <| K_ <| U_ <| C_ ?_
  cases oi h
  exact ⟨_, rfl, kn, (hs H), rfl⟩
  refine G_ rfl hc13 <| M_ <| C_ <| Y_ <| W_ rfl <| W_ rfl <| K_ <| U_ <| C_ <| I_ <| B_ <| us 1 rfl <| A_ <| Q_ <| H_ <| P_ <| H_ ?_
  cases oi h
  replace h := hOy7
  refine P_ <| H_ <| H_ ?_
  cases oi h
  exact hret _ rfl kn (hs H)
  rintro σ S e ⟨y7b, rfl, hk, H, rfl⟩
  replace h := hOy7
  dsimp only at h
  refine J_ hk <| V_ <| C_ <| S_ <| us 2 rfl <| A_ <| C_ ?_
  exact ih h  kn (hs H)
  refine G_ rfl hc5 <| Y_ <| K_ <| K_ ?_
  cases oi h
  exact hbrk _ rfl  m_ (hs H)
theorem s89 : ∀ k : Nat, ∀ {a0 : Str} {r : Bool}, F89 k a0 = some r → Q 89 [(.str a0)] (.bool r) := by
 intro k a0 r h
 unfold F89 at h
 refine Qg (pf := Xu6) rfl rfl rfl fun H => ?_
 refine B_ <| us 1 rfl <| A_ <| I_ <| B_ <| us 1 rfl <| w (.bool (a0 == [])) rfl rfl <| w (.bool (a0 == [])) rfl rfl ?_
 refine O_ 4 (SH H [(0, (.str a0)), (11, (.bool ((a0 == []) || (decide ((Str.len a0) > 16)))))]) ?_ ?_
 revert H
 cases hc1 : (a0 == [])
 intro H
 refine us 4 rfl <| A_ ?_
 exact kf H
 intro H
 refine us 4 rfl <| A_ ?_
 exact kf H
 rintro σ S e ⟨hk, H, rfl⟩
 refine E_ hk <| w (.bool ((a0 == []) || (decide ((Str.len a0) > 16)))) rfl rfl ?_
 obtain ⟨y6, hy6, hOy6⟩ := Xaf h
 refine O_ 4 (SJ [(0, (.str a0)), (16, (.bool y6))] [] [] [] [] [] false) ?_ ?_
 replace h := hy6
 revert H
 cases hc8 : ((a0 == []) || (decide ((Str.len a0) > 16)))
 intro H
 replace h := Xc5 h hc8
 refine us 1 rfl <| N_ rfl rfl ?_
 obtain ⟨c7, hc7, h⟩ := Xaf h
 refine w (.int .u8 c7) rfl (nz rfl (XaU rfl rfl rfl hc7)) <| us 2 rfl <| A_ ?_
 have h := oi h; subst h
 exact kh H
 intro H
 replace h := Xc4 h hc8
 refine us 4 rfl <| A_ ?_
 have h := oi h; subst h
 exact kh H
 rintro σ S e ⟨hk, H, rfl⟩
 replace h := hOy6
 refine E_ hk <| us 1 rfl ?_
 obtain ⟨y2, hy2, hOy2⟩ := Xaf h
 refine O_ 4 (SJ [(0, (.str a0)), (21, (.bool y2))] [] [] [] [] [] false) ?_ ?_
 replace h := hy2
 revert H
 cases hc3 : y6
 intro H
 replace h := Xc5 h hc3
 refine us 1 rfl <| N_ rfl rfl ?_
 obtain ⟨c4, hc4, h⟩ := Xaf h
 refine w (.int .u8 c4) rfl (nz rfl (XaU rfl rfl rfl hc4)) <| us 2 rfl <| A_ ?_
 have h := oi h; subst h
 exact kh H
 intro H
 replace h := Xc4 h hc3
 refine us 4 rfl <| A_ ?_
 have h := oi h; subst h
 exact kh H
 rintro σ S e ⟨hk, H, rfl⟩
 replace h := hOy2
 refine E_ hk <| A_ ?_
 rcases Xa1 h with ⟨hc5, h⟩ | ⟨hc5, h⟩
 refine F_ rfl hc5 <| B_ <| us 1 rfl <| A_ <| Q_ <| H_ ?_
 have h := oi h; subst h
 exact Kr (.bool false) rfl rfl
 refine G_ rfl hc5 <| M_ <| C_ <| I_ <| B_ <| us 1 rfl <| WO.ex rfl (nzx rfl (Xe2 rfl rfl rfl rfl H)) ?_
 rintro v9 S ⟨hv9, H⟩
 refine w (.int .i64 (Sl.len (Str.bytes a0))) rfl (nz rfl (XdC rfl hv9 rfl)) <| us 1 rfl <| A_ ?_
 obtain ⟨y10, hy10, hOy10⟩ := Xaf h
 refine R_ ?_
 refine Xst (hv9) ?_ ?_ hy10  kn (H.sub .slnil (.cons _ .slnil) .slnil)
 intro y10r he σ S  hk H; subst he; replace h := hOy10; dsimp only at h
 refine J_ hk <| P_ <| H_ ?_
 have h := oi h; subst h
 exact Kr (.bool y10r) rfl rfl
 intro y10b he σ S  hk H; subst he; replace h := hOy10; dsimp only at h
 refine J_ hk <| U_ <| C_ <| B_ <| us 1 rfl <| A_ <| Q_ ?_
 have h := oi h; subst h
 exact Kr (.bool true) rfl rfl
def Xgb (k : Nat) (a0 : Sl Str) (a1 : Int) : Nat → Int → Option (Out Bool Int)
 | 0, _ => none
 | n + 1, x2 =>
  if decide (x2 < a1) then
  (Sl.at? a0 x2).bind fun y3 =>
  if (decide ((Str.len y3) > 60)) || (((y3 == []) && (decide (x2 > 0))) && (decide (x2 < (sb .i64 (Sl.len a0) 1)))) then
  some (Out.ret false)
  else
  Xgb k a0 a1 n (ad .i64 x2 1)
  else
  some (Out.brk x2)
def F90 (k : Nat) (a0 : Sl Str) : Option Bool :=
 (if (decide ((Sl.len a0) < 2)) || (decide ((Sl.len a0) > 20)) then
 some true
 else
 (Sl.join? a0 []).bind fun y7 =>
 some (y7 == [])).bind fun y6 =>
 if y6 then
 some false
 else
 (Xgb k a0 (Sl.len a0) k 0).bind fun y1 =>
 match y1 with
 | .ret y1r => some y1r
 | .brk y1b =>
 some true
theorem Xsu {k : Nat} {a1 : Sl Str} {a2 : Int} {S0 : List SObj} {R : List Nat} {K : KX}  {o : Out Bool Int}
  (hret : ∀ r : Bool, o = .ret r → EK [(2, (.bool r))] S0 R [] [] [] (K .ret))
  (hbrk : ∀ y : Int, o = .brk y → EK [] S0 R [] [] [] (K (.exit 0))) :
  ∀ {n : Nat} {x3 : Int}, Xgb k a1 a2 n x3 = some o → ∀ {σ : Nat → PV} {S : List SObj}, Xa2 [(0, (Xar eS a1)), (18, (Xar eS a1)), (19, (.int .i64 a2)), (20, (.int .i64 x3))] σ → Hp S0 R S [] [] [] → WC env ⟨44, S0.length⟩ (.loop XpS) σ S false K := by
 intro n
 induction n with
 | zero => intro _ h; cases h
 | succ n ih =>
  intro x3 h σ S  hk H
  rw [Xgb] at h
  refine b_ <| X_ hk <| B_ <| us 1 rfl <| A_ <| I_ ?_
  rcases Xa1 h with ⟨hc4, h⟩ | ⟨hc4, h⟩
  refine F_ rfl hc4 <| M_ <| C_ <| I_ <| R_ <| B_ <| us 1 rfl ?_
  obtain ⟨y5, hy5, h⟩ := Xaf h
  refine Wx hy5 rfl rfl <| us 3 rfl <| A_ <| B_ <| us 2 rfl <| w (.bool (decide ((Str.len y5) > 60))) rfl rfl <| w (.bool (decide ((Str.len y5) > 60))) rfl rfl ?_
  refine O_ 14 (SJ [(0, (Xar eS a1)), (18, (Xar eS a1)), (19, (.int .i64 a2)), (20, (.int .i64 x3)), (42, (.bool ((decide ((Str.len y5) > 60)) || (((y5 == []) && (decide (x3 > 0))) && (decide (x3 < (sb .i64 (Sl.len a1) 1)))))))] S0 R [] [] [] false) ?_ ?_
  revert H
  cases hc6 : (decide ((Str.len y5) > 60))
  intro H
  refine us 1 rfl <| N_ rfl rfl <| w (.bool (y5 == [])) rfl rfl <| N_ rfl rfl <| w (.bool (y5 == [])) rfl rfl ?_
  refine O_ 3 (SH H [(0, (Xar eS a1)), (3, (.int .i64 x3)), (18, (Xar eS a1)), (19, (.int .i64 a2)), (20, (.int .i64 x3)), (28, (.bool false)), (34, (.bool ((y5 == []) && (decide (x3 > 0)))))]) ?_ ?_
  revert H
  cases hc7 : (y5 == [])
  intro H
  refine us 3 rfl <| A_ ?_
  exact kf H
  intro H
  refine us 3 rfl <| A_ ?_
  exact kf H
  rintro σ S e ⟨hk, H, rfl⟩
  refine E_ hk <| N_ rfl rfl <| w (.bool ((y5 == []) && (decide (x3 > 0)))) rfl rfl ?_
  refine O_ 6 (SH H [(0, (Xar eS a1)), (18, (Xar eS a1)), (19, (.int .i64 a2)), (20, (.int .i64 x3)), (28, (.bool false)), (41, (.bool (((y5 == []) && (decide (x3 > 0))) && (decide (x3 < (sb .i64 (Sl.len a1) 1))))))]) ?_ ?_
  revert H
  cases hc8 : ((y5 == []) && (decide (x3 > 0)))
  intro H
  refine us 6 rfl <| A_ ?_
  exact kf H
  intro H
  refine us 2 rfl <| N_ rfl rfl <| Wl rfl <| us 3 rfl <| A_ ?_
  exact kf H
  rintro σ S e ⟨hk, H, rfl⟩
  refine E_ hk <| us 1 rfl <| A_ ?_
  exact kf H
  intro H
  refine us 3 rfl <| l_ rfl rfl <| l_ rfl rfl <| us 2 rfl <| l_ rfl rfl <| l_ rfl rfl <| l_ rfl rfl <| l_ rfl rfl <| l_ rfl rfl <| us 2 rfl <| A_ ?_
  exact kf H
  rintro σ S e ⟨hk, H, rfl⟩
  refine E_ hk <| A_ ?_
  rcases Xa1 h with ⟨hc9, h⟩ | ⟨hc9, h⟩
  refine F_ rfl hc9 <| B_ <| us 1 rfl <| A_ <| Q_ <| P_ <| H_ <| H_ ?_
  cases oi h
  exact hret _ rfl kn (hs H)
  refine G_ rfl hc9 <| M_ <| V_ <| C_ <| S_ <| us 2 rfl <| A_ <| C_ ?_
  exact ih h  kn (hs H)
  refine G_ rfl hc4 <| Y_ <| K_ <| K_ ?_
  cases oi h
  exact hbrk _ rfl  m_ (hs H)
theorem s90 : ∀ k : Nat, ∀ {a0 : Sl Str} {r : Bool}, F90 k a0 = some r → Q 90 [(Xar eS a0)] (.bool r) := by
 intro k a0 r h
 unfold F90 at h
 refine Qg (pf := XuA) rfl cq rfl fun H => ?_
 refine B_ <| us 1 rfl <| A_ <| I_ <| B_ <| us 1 rfl <| Wl rfl <| w (.bool (decide ((Sl.len a0) < 2))) rfl rfl <| w (.bool (decide ((Sl.len a0) < 2))) rfl rfl ?_
 refine O_ 4 (SH H [(0, (Xar eS a0)), (12, (.bool ((decide ((Sl.len a0) < 2)) || (decide ((Sl.len a0) > 20)))))]) ?_ ?_
 revert H
 cases hc1 : (decide ((Sl.len a0) < 2))
 intro H
 refine us 1 rfl <| N_ rfl rfl <| Wl rfl <| us 2 rfl <| A_ ?_
 exact kf H
 intro H
 refine us 4 rfl <| A_ ?_
 exact kf H
 rintro σ S e ⟨hk, H, rfl⟩
 generalize ((decide ((Sl.len a0) < 2)) || (decide ((Sl.len a0) > 20))) = p0 at hk h
 refine E_ hk <| w (.bool p0) rfl rfl ?_
 obtain ⟨y6, hy6, hOy6⟩ := Xaf h
 refine O_ 4 (SJ [(0, (Xar eS a0)), (17, (.bool y6))] [] [] [] [] [] false) ?_ ?_
 replace h := hy6
 revert H
 cases hc8 : p0
 intro H
 replace h := Xc5 h hc8
 refine us 1 rfl <| N_ rfl rfl ?_
 obtain ⟨y7, hy7, h⟩ := Xaf h
 refine w (.str y7) rfl (nz (fe rfl (fo rfl rfl)) (n_ (vs := [(Xar eS a0), (.str [])]) rfl rfl (Xl9 rfl (c_ _ _) hy7 _))) <| us 2 rfl <| A_ ?_
 have h := oi h; subst h
 exact kh H
 intro H
 replace h := Xc4 h hc8
 refine us 4 rfl <| A_ ?_
 have h := oi h; subst h
 exact kh H
 rintro σ S e ⟨hk, H, rfl⟩
 replace h := hOy6
 refine E_ hk <| A_ ?_
 rcases Xa1 h with ⟨hc2, h⟩ | ⟨hc2, h⟩
 refine F_ rfl hc2 <| B_ <| us 1 rfl <| A_ <| Q_ <| H_ ?_
 have h := oi h; subst h
 exact Kr (.bool false) rfl rfl
 refine G_ rfl hc2 <| M_ <| C_ <| I_ <| B_ <| us 1 rfl <| Wl rfl <| us 1 rfl <| A_ ?_
 obtain ⟨y3, hy3, hOy3⟩ := Xaf h
 refine R_ ?_
 refine Xsu ?_ ?_ hy3  kn (hs H)
 intro y3r he σ S  hk H; subst he; replace h := hOy3; dsimp only at h
 refine J_ hk <| P_ <| H_ ?_
 have h := oi h; subst h
 exact Kr (.bool y3r) rfl rfl
 intro y3b he σ S  hk H; subst he; replace h := hOy3; dsimp only at h
 refine J_ hk <| U_ <| C_ <| B_ <| us 1 rfl <| A_ <| Q_ ?_
 have h := oi h; subst h
 exact Kr (.bool true) rfl rfl
def F68 : Nat → Xae → Option Bool
 | 0, _ => none
 | k + 1, a0 =>
  if a0.Kind == 3 then
  if (Sl.len a0.Kids) != 1 then
  some false
  else
  (if ((a0.Attr == []) && (a0.Value == [])) && ((Sl.len a0.Subs) == 0) then
  (Xga k (F68 k) a0.Kids).bind fun y1 =>
  some (!y1)
  else
  some false).bind fun y2 =>
  some y2
  else
  (if a0.Kind == 1 then
  some (a0.Kind == 1)
  else
  some (a0.Kind == 2)).bind fun y3 =>
  if y3 then
  (if ((a0.Attr == []) && (a0.Value == [])) && ((Sl.len a0.Subs) == 0) then
  (Xga k (F68 k) a0.Kids).bind fun y4 =>
  some (!y4)
  else
  some false).bind fun y5 =>
  some y5
  else
  if a0.Kind == 7 then
  (F89 k a0.Attr).bind fun y6 =>
  some (((y6 && (a0.Value == [])) && ((Sl.len a0.Subs) == 0)) && ((Sl.len a0.Kids) == 0))
  else
  if a0.Kind == 8 then
  (F89 k a0.Attr).bind fun y7 =>
  (if (y7 && (a0.Value == [])) && ((Sl.len a0.Kids) == 0) then
  (F90 k a0.Subs).bind fun y8 =>
  some y8
  else
  some false).bind fun y9 =>
  some y9
  else
  (if a0.Kind == 4 then
  some (a0.Kind == 4)
  else
  (if a0.Kind == 5 then
  some (a0.Kind == 5)
  else
  some (a0.Kind == 6)).bind fun y10 =>
  some y10).bind fun y11 =>
  if y11 then
  (F89 k a0.Attr).bind fun y12 =>
  some (((y12 && (decide ((Str.len a0.Value) ≤ 60))) && ((Sl.len a0.Subs) == 0)) && ((Sl.len a0.Kids) == 0))
  else
  some false
theorem s68 : ∀ k : Nat, ∀ {a0 : Xae} {r : Bool}, F68 k a0 = some r → Q 68 [(.agg (Xag a0))] (.bool r) := by
 intro k
 induction k with
 | zero => intro _ r h; cases h
 | succ k ih =>
  intro a0 r h
  rw [F68] at h
  refine Qg (pf := XuC) rfl cq rfl fun H => ?_
  refine B_ <| Wb H rfl ?_
  intro i1 S hi1 H
  refine us 1 rfl <| A_ <| I_ <| B_ <| us 1 rfl <| Wg H 0 rfl <| A_ <| R_ <| I_ <| R_ <| I_ <| R_ <| I_ <| R_ <| I_ <| R_ <| I_ <| R_ <| I_ <| I_ <| B_ <| us 2 rfl <| A_ ?_
  rcases Xa1 h with ⟨hc2, h⟩ | ⟨hc2, h⟩
  refine F_ rfl hc2 <| Y_ <| K_ <| K_ <| U_ <| C_ <| B_ <| us 1 rfl <| Wg H 0 rfl <| Wl rfl <| us 1 rfl <| A_ ?_
  rcases Xa1 h with ⟨hc3, h⟩ | ⟨hc3, h⟩
  refine F_ rfl hc3 <| B_ <| us 1 rfl <| A_ <| Q_ <| P_ <| H_ <| P_ <| H_ <| P_ <| H_ <| P_ <| H_ <| P_ <| H_ ?_
  have h := oi h; subst h
  exact Kr (.bool false) rfl rfl
  refine G_ rfl hc3 <| M_ <| V_ <| C_ <| I_ <| B_ <| us 1 rfl <| Wg H 0 rfl <| w (.bool (a0.Attr == [])) rfl rfl <| w (.bool (a0.Attr == [])) rfl rfl ?_
  refine O_ 4 (SH H [(1, (.ptr i1 0)), (29, (.bool ((a0.Attr == []) && (a0.Value == []))))]) ?_ ?_
  revert H
  cases hc4 : (a0.Attr == [])
  intro H
  refine us 4 rfl <| A_ ?_
  exact kf H
  intro H
  refine us 1 rfl <| N_ rfl rfl <| Wg H 0 rfl <| us 2 rfl <| A_ ?_
  exact kf H
  rintro σ S e ⟨hk, H, rfl⟩
  refine E_ hk <| w (.bool ((a0.Attr == []) && (a0.Value == []))) rfl rfl ?_
  refine O_ 5 (SH H [(1, (.ptr i1 0)), (35, (.bool (((a0.Attr == []) && (a0.Value == [])) && ((Sl.len a0.Subs) == 0))))]) ?_ ?_
  revert H
  cases hc5 : ((a0.Attr == []) && (a0.Value == []))
  intro H
  refine us 5 rfl <| A_ ?_
  exact kf H
  intro H
  refine us 1 rfl <| N_ rfl rfl <| Wg H 0 rfl <| N_ rfl rfl <| Wl rfl <| us 2 rfl <| A_ ?_
  exact kf H
  rintro σ S e ⟨hk, H, rfl⟩
  refine E_ hk <| w (.bool (((a0.Attr == []) && (a0.Value == [])) && ((Sl.len a0.Subs) == 0))) rfl rfl ?_
  obtain ⟨y6, hy6, hOy6⟩ := Xaf h
  refine O_ 5 (SJ [(41, (.bool y6))] [] [] [(i1, .cells (Xag a0))] [] [] false) ?_ ?_
  replace h := hy6
  revert H
  cases hc7 : (((a0.Attr == []) && (a0.Value == [])) && ((Sl.len a0.Subs) == 0))
  intro H
  replace h := Xc5 h hc7
  refine us 5 rfl <| A_ ?_
  have h := oi h; subst h
  exact kh H
  intro H
  replace h := Xc4 h hc7
  refine us 1 rfl <| N_ rfl rfl <| Wg H 0 rfl <| N_ rfl rfl ?_
  obtain ⟨y8, hy8, h⟩ := Xaf h
  refine Cl (.bool y8) [(Xar Xan a0.Kids), (.fn (.func 88) [] [])] rfl (fe rfl (fo rfl rfl)) (sv (Xmr ih _ hy8)) <| us 2 rfl <| A_ ?_
  have h := oi h; subst h
  exact kh H
  rintro σ S e ⟨hk, H, rfl⟩
  replace h := hOy6
  refine E_ hk <| us 1 rfl <| A_ <| Q_ <| H_ <| P_ <| H_ <| P_ <| H_ <| P_ <| H_ <| P_ <| H_ ?_
  have h := oi h; subst h
  exact Kr (.bool y6) rfl rfl
  refine G_ rfl hc2 <| M_ <| C_ <| I_ <| I_ <| B_ <| us 2 rfl <| A_ ?_
  obtain ⟨y9, hy9, hOy9⟩ := Xaf h
  refine a_ (SJ [(1, (.ptr i1 0)), (4, (.int .i64 a0.Kind)), (7, (.bool y9))] [] [] [(i1, .cells (Xag a0))] [] [] false) ?_ ?_
  replace h := hy9
  rcases Xa1 h with ⟨hc10, h⟩ | ⟨hc10, h⟩
  refine F_ rfl hc10 <| M_ <| C_ ?_
  have h := oi h; subst h
  exact kh H
  refine G_ rfl hc10 <| S_ <| us 2 rfl <| A_ <| C_ ?_
  have h := oi h; subst h
  exact kh H
  rintro σ S e ⟨hk, H, rfl⟩
  replace h := hOy9
  refine J_ hk <| C_ ?_
  rcases Xa1 h with ⟨hc11, h⟩ | ⟨hc11, h⟩
  refine F_ rfl hc11 <| Y_ <| K_ <| K_ <| W_ rfl <| K_ <| U_ <| C_ <| I_ <| B_ <| us 1 rfl <| Wg H 0 rfl <| w (.bool (a0.Attr == [])) rfl rfl <| w (.bool (a0.Attr == [])) rfl rfl ?_
  refine O_ 4 (SH H [(1, (.ptr i1 0)), (29, (.bool ((a0.Attr == []) && (a0.Value == []))))]) ?_ ?_
  revert H
  cases hc12 : (a0.Attr == [])
  intro H
  refine us 4 rfl <| A_ ?_
  exact kf H
  intro H
  refine us 1 rfl <| N_ rfl rfl <| Wg H 0 rfl <| us 2 rfl <| A_ ?_
  exact kf H
  rintro σ S e ⟨hk, H, rfl⟩
  refine E_ hk <| w (.bool ((a0.Attr == []) && (a0.Value == []))) rfl rfl ?_
  refine O_ 5 (SH H [(1, (.ptr i1 0)), (35, (.bool (((a0.Attr == []) && (a0.Value == [])) && ((Sl.len a0.Subs) == 0))))]) ?_ ?_
  revert H
  cases hc13 : ((a0.Attr == []) && (a0.Value == []))
  intro H
  refine us 5 rfl <| A_ ?_
  exact kf H
  intro H
  refine us 1 rfl <| N_ rfl rfl <| Wg H 0 rfl <| N_ rfl rfl <| Wl rfl <| us 2 rfl <| A_ ?_
  exact kf H
  rintro σ S e ⟨hk, H, rfl⟩
  refine E_ hk <| w (.bool (((a0.Attr == []) && (a0.Value == [])) && ((Sl.len a0.Subs) == 0))) rfl rfl ?_
  obtain ⟨y14, hy14, hOy14⟩ := Xaf h
  refine O_ 5 (SJ [(41, (.bool y14))] [] [] [(i1, .cells (Xag a0))] [] [] false) ?_ ?_
  replace h := hy14
  revert H
  cases hc15 : (((a0.Attr == []) && (a0.Value == [])) && ((Sl.len a0.Subs) == 0))
  intro H
  replace h := Xc5 h hc15
  refine us 5 rfl <| A_ ?_
  have h := oi h; subst h
  exact kh H
  intro H
  replace h := Xc4 h hc15
  refine us 1 rfl <| N_ rfl rfl <| Wg H 0 rfl <| N_ rfl rfl ?_
  obtain ⟨y16, hy16, h⟩ := Xaf h
  refine Cl (.bool y16) [(Xar Xan a0.Kids), (.fn (.func 88) [] [])] rfl (fe rfl (fo rfl rfl)) (sv (Xmr ih _ hy16)) <| us 2 rfl <| A_ ?_
  have h := oi h; subst h
  exact kh H
  rintro σ S e ⟨hk, H, rfl⟩
  replace h := hOy14
  refine E_ hk <| us 1 rfl <| A_ <| Q_ <| H_ <| P_ <| H_ <| P_ <| H_ <| P_ <| H_ <| P_ <| H_ ?_
  have h := oi h; subst h
  exact Kr (.bool y14) rfl rfl
  refine G_ rfl hc11 <| M_ <| C_ <| I_ <| B_ <| us 2 rfl <| A_ ?_
  rcases Xa1 h with ⟨hc17, h⟩ | ⟨hc17, h⟩
  refine F_ rfl hc17 <| Y_ <| K_ <| K_ <| W_ rfl <| K_ <| W_ rfl <| K_ <| U_ <| C_ <| I_ <| B_ <| us 1 rfl <| Wg H 0 rfl ?_
  obtain ⟨y18, hy18, h⟩ := Xaf h
  refine Cl (.bool y18) [(.str a0.Attr)] rfl rfl (s89 _ hy18 rfl) <| us 1 rfl ?_
  refine O_ 4 (SH H [(1, (.ptr i1 0)), (49, (.bool (y18 && (a0.Value == []))))]) ?_ ?_
  revert H
  cases hc19 : y18
  intro H
  refine us 4 rfl <| A_ ?_
  exact kf H
  intro H
  refine us 1 rfl <| N_ rfl rfl <| Wg H 0 rfl <| us 2 rfl <| A_ ?_
  exact kf H
  rintro σ S e ⟨hk, H, rfl⟩
  refine E_ hk <| w (.bool (y18 && (a0.Value == []))) rfl rfl ?_
  refine O_ 5 (SH H [(1, (.ptr i1 0)), (55, (.bool ((y18 && (a0.Value == [])) && ((Sl.len a0.Subs) == 0))))]) ?_ ?_
  revert H
  cases hc20 : (y18 && (a0.Value == []))
  intro H
  refine us 5 rfl <| A_ ?_
  exact kf H
  intro H
  refine us 1 rfl <| N_ rfl rfl <| Wg H 0 rfl <| N_ rfl rfl <| Wl rfl <| us 2 rfl <| A_ ?_
  exact kf H
  rintro σ S e ⟨hk, H, rfl⟩
  refine E_ hk <| w (.bool ((y18 && (a0.Value == [])) && ((Sl.len a0.Subs) == 0))) rfl rfl ?_
  refine O_ 5 (SH H [(61, (.bool (((y18 && (a0.Value == [])) && ((Sl.len a0.Subs) == 0)) && ((Sl.len a0.Kids) == 0))))]) ?_ ?_
  revert H
  cases hc21 : ((y18 && (a0.Value == [])) && ((Sl.len a0.Subs) == 0))
  intro H
  refine us 5 rfl <| A_ ?_
  exact kf H
  intro H
  refine us 1 rfl <| N_ rfl rfl <| Wg H 0 rfl <| N_ rfl rfl <| Wl rfl <| us 2 rfl <| A_ ?_
  exact kf H
  rintro σ S e ⟨hk, H, rfl⟩
  refine E_ hk <| us 1 rfl <| A_ <| Q_ <| H_ <| P_ <| H_ <| P_ <| H_ <| P_ <| H_ ?_
  have h := oi h; subst h
  exact Kr (.bool (((y18 && (a0.Value == [])) && ((Sl.len a0.Subs) == 0)) && ((Sl.len a0.Kids) == 0))) rfl rfl
  refine G_ rfl hc17 <| M_ <| C_ <| I_ <| B_ <| us 2 rfl <| A_ ?_
  rcases Xa1 h with ⟨hc22, h⟩ | ⟨hc22, h⟩
  refine F_ rfl hc22 <| Y_ <| K_ <| K_ <| W_ rfl <| K_ <| W_ rfl <| K_ <| W_ rfl <| K_ <| U_ <| C_ <| I_ <| B_ <| us 1 rfl <| Wg H 0 rfl ?_
  obtain ⟨y23, hy23, h⟩ := Xaf h
  refine Cl (.bool y23) [(.str a0.Attr)] rfl rfl (s89 _ hy23 rfl) <| us 1 rfl ?_
  refine O_ 4 (SH H [(1, (.ptr i1 0)), (69, (.bool (y23 && (a0.Value == []))))]) ?_ ?_
  revert H
  cases hc24 : y23
  intro H
  refine us 4 rfl <| A_ ?_
  exact kf H
  intro H
  refine us 1 rfl <| N_ rfl rfl <| Wg H 0 rfl <| us 2 rfl <| A_ ?_
  exact kf H
  rintro σ S e ⟨hk, H, rfl⟩
  refine E_ hk <| w (.bool (y23 && (a0.Value == []))) rfl rfl ?_
  refine O_ 5 (SH H [(1, (.ptr i1 0)), (75, (.bool ((y23 && (a0.Value == [])) && ((Sl.len a0.Kids) == 0))))]) ?_ ?_
  revert H
  cases hc25 : (y23 && (a0.Value == []))
  intro H
  refine us 5 rfl <| A_ ?_
  exact kf H
  intro H
  refine us 1 rfl <| N_ rfl rfl <| Wg H 0 rfl <| N_ rfl rfl <| Wl rfl <| us 2 rfl <| A_ ?_
  exact kf H
  rintro σ S e ⟨hk, H, rfl⟩
  refine E_ hk <| w (.bool ((y23 && (a0.Value == [])) && ((Sl.len a0.Kids) == 0))) rfl rfl ?_
  obtain ⟨y26, hy26, hOy26⟩ := Xaf h
  refine O_ 4 (SJ [(80, (.bool y26))] [] [] [(i1, .cells (Xag a0))] [] [] false) ?_ ?_
  replace h := hy26
  revert H
  cases hc27 : ((y23 && (a0.Value == [])) && ((Sl.len a0.Kids) == 0))
  intro H
  replace h := Xc5 h hc27
  refine us 4 rfl <| A_ ?_
  have h := oi h; subst h
  exact kh H
  intro H
  replace h := Xc4 h hc27
  refine us 1 rfl <| N_ rfl rfl <| Wg H 0 rfl <| N_ rfl rfl ?_
  obtain ⟨y28, hy28, h⟩ := Xaf h
  refine Cl (.bool y28) [(Xar eS a0.Subs)] rfl (fe rfl rfl) (sv (s90 _ hy28)) <| us 1 rfl <| A_ ?_
  have h := oi h; subst h
  exact kh H
  rintro σ S e ⟨hk, H, rfl⟩
  replace h := hOy26
  refine E_ hk <| us 1 rfl <| A_ <| Q_ <| H_ <| P_ <| H_ <| P_ <| H_ ?_
  have h := oi h; subst h
  exact Kr (.bool y26) rfl rfl
  refine G_ rfl hc22 <| M_ <| C_ <| I_ <| B_ <| us 2 rfl <| A_ ?_
  obtain ⟨y29, hy29, hOy29⟩ := Xaf h
  refine a_ (SJ [(1, (.ptr i1 0)), (14, (.bool y29))] [] [] [(i1, .cells (Xag a0))] [] [] false) ?_ ?_
  replace h := hy29
  rcases Xa1 h with ⟨hc30, h⟩ | ⟨hc30, h⟩
  refine F_ rfl hc30 <| M_ <| C_ ?_
  have h := oi h; subst h
  exact kh H
  refine G_ rfl hc30 <| B_ <| us 2 rfl <| A_ ?_
  obtain ⟨y31, hy31, hOy31⟩ := Xaf h
  refine a_ (SJ [(1, (.ptr i1 0)), (14, (.bool y31))] [] [] [(i1, .cells (Xag a0))] [] [] false) ?_ ?_
  replace h := hy31
  rcases Xa1 h with ⟨hc32, h⟩ | ⟨hc32, h⟩
  refine F_ rfl hc32 <| M_ <| C_ ?_
  have h := oi h; subst h
  exact kh H
  refine G_ rfl hc32 <| S_ <| us 2 rfl <| A_ <| C_ ?_
  have h := oi h; subst h
  exact kh H
  rintro σ S e ⟨hk, H, rfl⟩
  replace h := hOy31
  refine J_ hk <| C_ ?_
  have h := oi h; subst h
  exact kh H
  rintro σ S e ⟨hk, H, rfl⟩
  replace h := hOy29
  refine J_ hk <| C_ ?_
  rcases Xa1 h with ⟨hc33, h⟩ | ⟨hc33, h⟩
  refine F_ rfl hc33 <| Y_ <| K_ <| W_ rfl <| K_ <| W_ rfl <| K_ <| W_ rfl <| K_ <| W_ rfl <| K_ <| U_ <| C_ <| I_ <| B_ <| us 1 rfl <| Wg H 0 rfl ?_
  obtain ⟨y34, hy34, h⟩ := Xaf h
  refine Cl (.bool y34) [(.str a0.Attr)] rfl rfl (s89 _ hy34 rfl) <| us 1 rfl ?_
  refine O_ 5 (SH H [(1, (.ptr i1 0)), (89, (.bool (y34 && (decide ((Str.len a0.Value) ≤ 60)))))]) ?_ ?_
  revert H
  cases hc35 : y34
  intro H
  refine us 5 rfl <| A_ ?_
  exact kf H
  intro H
  refine us 1 rfl <| N_ rfl rfl <| Wg H 0 rfl <| us 3 rfl <| A_ ?_
  exact kf H
  rintro σ S e ⟨hk, H, rfl⟩
  refine E_ hk <| w (.bool (y34 && (decide ((Str.len a0.Value) ≤ 60)))) rfl rfl ?_
  refine O_ 5 (SH H [(1, (.ptr i1 0)), (95, (.bool ((y34 && (decide ((Str.len a0.Value) ≤ 60))) && ((Sl.len a0.Subs) == 0))))]) ?_ ?_
  revert H
  cases hc36 : (y34 && (decide ((Str.len a0.Value) ≤ 60)))
  intro H
  refine us 5 rfl <| A_ ?_
  exact kf H
  intro H
  refine us 1 rfl <| N_ rfl rfl <| Wg H 0 rfl <| N_ rfl rfl <| Wl rfl <| us 2 rfl <| A_ ?_
  exact kf H
  rintro σ S e ⟨hk, H, rfl⟩
  refine E_ hk <| w (.bool ((y34 && (decide ((Str.len a0.Value) ≤ 60))) && ((Sl.len a0.Subs) == 0))) rfl rfl ?_
  refine O_ 5 (SH H [(101, (.bool (((y34 && (decide ((Str.len a0.Value) ≤ 60))) && ((Sl.len a0.Subs) == 0)) && ((Sl.len a0.Kids) == 0))))]) ?_ ?_
  revert H
  cases hc37 : ((y34 && (decide ((Str.len a0.Value) ≤ 60))) && ((Sl.len a0.Subs) == 0))
  intro H
  refine us 5 rfl <| A_ ?_
  exact kf H
  intro H
  refine us 1 rfl <| N_ rfl rfl <| Wg H 0 rfl <| N_ rfl rfl <| Wl rfl <| us 2 rfl <| A_ ?_
  exact kf H
  rintro σ S e ⟨hk, H, rfl⟩
  refine E_ hk <| us 1 rfl <| A_ <| Q_ <| H_ <| P_ <| H_ ?_
  have h := oi h; subst h
  exact Kr (.bool (((y34 && (decide ((Str.len a0.Value) ≤ 60))) && ((Sl.len a0.Subs) == 0)) && ((Sl.len a0.Kids) == 0))) rfl rfl
  refine G_ rfl hc33 <| M_ <| C_ <| Y_ <| W_ rfl <| K_ <| W_ rfl <| K_ <| W_ rfl <| K_ <| W_ rfl <| K_ <| W_ rfl <| K_ <| U_ <| C_ <| B_ <| us 1 rfl <| A_ <| Q_ ?_
  have h := oi h; subst h
  exact Kr (.bool false) rfl rfl
def F32 (k : Nat) (a0 : Xae) : Option Bool :=
 (F67 k a0).bind fun y2 =>
 (if decide (y2 ≤ 20) then
 (F68 k a0).bind fun y8 =>
 some y8
 else
 some false).bind fun y7 =>
 some y7
theorem s32 : ∀ k : Nat, ∀ {a0 : Xae} {r : Bool}, F32 k a0 = some r → Q 32 [(.agg (Xag a0))] (.bool r) := by
 intro k a0 r h
 unfold F32 at h
 refine Qg (pf := XuE) rfl cq rfl fun H => ?_
 refine B_ <| Wb H rfl ?_
 intro i1 S hi1 H
 refine us 1 rfl <| A_ <| B_ <| Wg H 0 rfl ?_
 obtain ⟨y2, hy2, h⟩ := Xaf h
 refine Cl (.int .i64 y2) [(.agg (Xag a0))] rfl rfl (sv (s67 _ hy2)) <| w (.bool (decide (y2 ≤ 20))) rfl rfl <| w (.bool (decide (y2 ≤ 20))) rfl rfl ?_
 obtain ⟨y7, hy7, hOy7⟩ := Xaf h
 refine O_ 3 (SJ [(9, (.bool y7))] [] [] [(i1, .cells (Xag a0))] [] [] false) ?_ ?_
 replace h := hy7
 revert H
 cases hc9 : (decide (y2 ≤ 20))
 intro H
 replace h := Xc5 h hc9
 refine us 3 rfl <| A_ ?_
 have h := oi h; subst h
 exact kh H
 intro H
 replace h := Xc4 h hc9
 refine N_ rfl rfl <| Wg H 0 rfl <| N_ rfl rfl ?_
 obtain ⟨y8, hy8, h⟩ := Xaf h
 refine Cl (.bool y8) [(.agg (Xag a0))] rfl rfl (sv (s68 _ hy8)) <| us 1 rfl <| A_ ?_
 have h := oi h; subst h
 exact kh H
 rintro σ S e ⟨hk, H, rfl⟩
 replace h := hOy7
 refine E_ hk <| us 1 rfl <| A_ <| Q_ ?_
 have h := oi h; subst h
 exact Kr (.bool y7) rfl rfl
def Xgc (k : Nat) (a0 : Sl Xat) (a1 : Int) (a2 : Int) : Nat → Int → Option (Out Bool Int)
 | 0, _ => none
 | n + 1, x3 =>
  if decide (x3 < a2) then
  (Sl.at? a0 x3).bind fun y4 =>
  (if (decide (y4.Kind < 1)) || (decide (y4.Kind > a1)) then
  some true
  else
  (F31 k (some [y4.Attr])).bind fun y5 =>
  some (!y5)).bind fun y6 =>
  (if y6 || (decide ((Sl.len y4.Values) > 12)) then
  some true
  else
  (F31 k y4.Values).bind fun y7 =>
  some (!y7)).bind fun y8 =>
  if y8 then
  some (Out.ret false)
  else
  Xgc k a0 a1 a2 n (ad .i64 x3 1)
  else
  some (Out.brk x3)
def F33 (k : Nat) (a0 : Sl Xat) (a1 : Int) : Option Bool :=
 (Xgc k a0 a1 (Sl.len a0) k 0).bind fun y2 =>
 match y2 with
 | .ret y2r => some y2r
 | .brk y2b =>
 some (decide ((Sl.len a0) ≤ 12))
theorem Xsv {k : Nat} {a1 : Sl Xat} {a2 : Int} {a3 : Int} {S0 : List SObj} {R : List Nat} {K : KX}  {o : Out Bool Int}
  (hret : ∀ r : Bool, o = .ret r → EK [(4, (.bool r))] S0 R [] [] [] (K .ret))
  (hbrk : ∀ y : Int, o = .brk y → EK [(0, (Xar Xao a1))] S0 R [] [] [] (K (.exit 0))) :
  ∀ {n : Nat} {x4 : Int}, Xgc k a1 a2 a3 n x4 = some o → ∀ {σ : Nat → PV} {S : List SObj}, Xa2 [(0, (Xar Xao a1)), (1, (.int .i64 a2)), (7, (Xar Xao a1)), (8, (.int .i64 a3)), (9, (.int .i64 x4))] σ → Hp S0 R S [] [] [] → WC env ⟨45, S0.length⟩ (.loop XpX) σ S false K := by
 intro n
 induction n with
 | zero => intro _ h; cases h
 | succ n ih =>
  intro x4 h σ S  hk H
  rw [Xgc] at h
  refine b_ <| X_ hk <| B_ <| us 1 rfl <| A_ <| I_ ?_
  rcases Xa1 h with ⟨hc5, h⟩ | ⟨hc5, h⟩
  refine F_ rfl hc5 <| M_ <| C_ <| I_ <| R_ <| B_ ?_
  obtain ⟨y6, hy6, h⟩ := Xaf h
  refine Wx hy6 (Xaz _) rfl <| us 1 rfl <| Wa (ti := XlD) H rfl ?_
  intro i7 S hi7 H
  refine Ws 0 H hi7 rfl ?_
  intro S H
  refine A_ <| B_ <| us 1 rfl <| Wg H 0 rfl <| w (.bool (decide (y6.Kind < 1))) rfl rfl <| w (.bool (decide (y6.Kind < 1))) rfl rfl ?_
  refine O_ 5 (SH H [(0, (Xar Xao a1)), (1, (.int .i64 a2)), (6, (.ptr i7 0)), (7, (Xar Xao a1)), (8, (.int .i64 a3)), (9, (.int .i64 x4)), (21, (.bool ((decide (y6.Kind < 1)) || (decide (y6.Kind > a2)))))]) ?_ ?_
  revert H
  cases hc8 : (decide (y6.Kind < 1))
  intro H
  refine us 1 rfl <| N_ rfl rfl <| Wg H 0 rfl <| us 3 rfl <| A_ ?_
  exact kf H
  intro H
  refine us 5 rfl <| A_ ?_
  exact kf H
  rintro σ S e ⟨hk, H, rfl⟩
  generalize ((decide (y6.Kind < 1)) || (decide (y6.Kind > a2))) = p0 at hk h
  refine E_ hk <| w (.bool p0) rfl rfl ?_
  obtain ⟨y9, hy9, hOy9⟩ := Xaf h
  refine O_ 6 (SJ [(0, (Xar Xao a1)), (1, (.int .i64 a2)), (6, (.ptr i7 0)), (7, (Xar Xao a1)), (8, (.int .i64 a3)), (9, (.int .i64 x4)), (28, (.bool y9))] S0 R [(i7, .cells (XbG y6))] [] [] false) ?_ ?_
  replace h := hy9
  revert H
  cases hc10 : p0
  intro H
  replace h := Xc5 h hc10
  refine us 1 rfl <| N_ rfl rfl <| Wg H 0 rfl <| N_ rfl rfl <| WS rfl (nz rfl (Xaj (ys := [y6.Attr]) (f := eS) (parts := [(0, (.str y6.Attr))]) rfl rfl rfl rfl rfl rfl (fc ⟨rfl, rfl⟩ (fun p hp => nomatch hp)) rfl)) ?_
  have hv11 : Xa8 eS (some [y6.Attr]) _ := ⟨.full, rfl⟩
  refine N_ rfl rfl ?_
  obtain ⟨y12, hy12, h⟩ := Xaf h
  refine Cl (.bool y12) [(.lst (List.map eS [y6.Attr]) .full)] rfl (Xaw hv11.frz rfl) (s31 _ hy12 (by simp only [hv11.strip, XaX, Xa3, eI, eB, eS, List.map_cons, List.map_nil, Xal] <;> rfl)) <| us 2 rfl <| A_ ?_
  cases oi h
  exact kh H
  intro H
  replace h := Xc4 h hc10
  refine us 6 rfl <| A_ ?_
  cases oi h
  exact kh H
  rintro σ S e ⟨hk, H, rfl⟩
  replace h := hOy9
  refine E_ hk <| us 1 rfl ?_
  refine O_ 5 (SH H [(0, (Xar Xao a1)), (1, (.int .i64 a2)), (6, (.ptr i7 0)), (7, (Xar Xao a1)), (8, (.int .i64 a3)), (9, (.int .i64 x4)), (34, (.bool (y9 || (decide ((Sl.len y6.Values) > 12)))))]) ?_ ?_
  revert H
  cases hc13 : y9
  intro H
  refine us 1 rfl <| N_ rfl rfl <| Wg H 0 rfl <| N_ rfl rfl <| Wl rfl <| us 2 rfl <| A_ ?_
  exact kf H
  intro H
  refine us 5 rfl <| A_ ?_
  exact kf H
  rintro σ S e ⟨hk, H, rfl⟩
  refine E_ hk <| w (.bool (y9 || (decide ((Sl.len y6.Values) > 12)))) rfl rfl ?_
  obtain ⟨y14, hy14, hOy14⟩ := Xaf h
  refine O_ 5 (SJ [(0, (Xar Xao a1)), (1, (.int .i64 a2)), (7, (Xar Xao a1)), (8, (.int .i64 a3)), (9, (.int .i64 x4)), (40, (.bool y14))] S0 R [(i7, .cells (XbG y6))] [] [] false) ?_ ?_
  replace h := hy14
  revert H
  cases hc15 : (y9 || (decide ((Sl.len y6.Values) > 12)))
  intro H
  replace h := Xc5 h hc15
  refine us 1 rfl <| N_ rfl rfl <| Wg H 0 rfl <| N_ rfl rfl ?_
  obtain ⟨y16, hy16, h⟩ := Xaf h
  refine Cl (.bool y16) [(Xar eS y6.Values)] rfl (fe rfl rfl) (sv (s31 _ hy16)) <| us 2 rfl <| A_ ?_
  cases oi h
  exact kh H
  intro H
  replace h := Xc4 h hc15
  refine us 5 rfl <| A_ ?_
  cases oi h
  exact kh H
  rintro σ S e ⟨hk, H, rfl⟩
  replace h := hOy14
  refine E_ hk <| A_ ?_
  rcases Xa1 h with ⟨hc17, h⟩ | ⟨hc17, h⟩
  refine F_ rfl hc17 <| B_ <| us 1 rfl <| A_ <| Q_ <| P_ <| H_ <| H_ ?_
  cases oi h
  exact hret _ rfl kn (H.sub (.cons _ .slnil) .slnil .slnil)
  refine G_ rfl hc17 <| M_ <| V_ <| C_ <| S_ <| us 2 rfl <| A_ <| C_ ?_
  exact ih h  kn (H.sub (.cons _ .slnil) .slnil .slnil)
  refine G_ rfl hc5 <| Y_ <| K_ <| K_ ?_
  cases oi h
  exact hbrk _ rfl  kn (hs H)
theorem s33 : ∀ k : Nat, ∀ {a0 : Sl Xat} {a1 : Int} {r : Bool}, F33 k a0 a1 = some r → Q 33 [(Xar Xao a0), (.int .i64 a1)] (.bool r) := by
 intro k a0 a1 r h
 unfold F33 at h
 refine Qg (pf := XuF) rfl cq rfl fun H => ?_
 refine B_ <| us 1 rfl <| A_ <| I_ <| B_ <| us 1 rfl <| Wl rfl <| us 1 rfl <| A_ ?_
 obtain ⟨y2, hy2, hOy2⟩ := Xaf h
 refine R_ ?_
 refine Xsv ?_ ?_ hy2  kn (hs H)
 intro y2r he σ S  hk H; subst he; replace h := hOy2; dsimp only at h
 refine J_ hk <| P_ <| H_ ?_
 have h := oi h; subst h
 exact Kr (.bool y2r) rfl rfl
 intro y2b he σ S  hk H; subst he; replace h := hOy2; dsimp only at h
 refine J_ hk <| U_ <| C_ <| B_ <| us 1 rfl <| Wl rfl <| us 2 rfl <| A_ <| Q_ ?_
 have h := oi h; subst h
 exact Kr (.bool (decide ((Sl.len a0) ≤ 12))) rfl rfl
def F18 (k : Nat) (a0 : Int) (a1 : Int) : Option Int :=
 if a0 == 9 then
 if (decide (a1 < 0)) || (decide (a1 > 8)) then
 some 0
 else
 (Sl.at? (some [0, 97, 0, 101, 103, 105, 107, 109, 111]) a1).bind fun y8 =>
 some y8
 else
 (Sl.at? (some [0, 96, 66, 99, 102, 104, 74, 108, 110, 0, 100]) a0).bind fun y2 =>
 some y2
theorem s18 : ∀ k : Nat, ∀ {a0 : Int} {a1 : Int} {r : Int}, F18 k a0 a1 = some r → Q 18 [(.int .i64 a0), (.int .i64 a1)] (.int .u8 r) := by
 intro k a0 a1 r h
 unfold F18 at h
 refine Qg (pf := Xut) rfl rfl rfl fun H => ?_
 refine B_ <| us 1 rfl <| A_ <| I_ <| B_ <| us 2 rfl <| A_ ?_
 rcases Xa1 h with ⟨hc2, h⟩ | ⟨hc2, h⟩
 refine F_ rfl hc2 <| I_ <| B_ <| us 1 rfl <| w (.bool (decide (a1 < 0))) rfl rfl <| w (.bool (decide (a1 < 0))) rfl rfl ?_
 refine O_ 3 (SH H [(1, (.int .i64 a1)), (12, (.bool ((decide (a1 < 0)) || (decide (a1 > 8)))))]) ?_ ?_
 revert H
 cases hc6 : (decide (a1 < 0))
 intro H
 refine us 3 rfl <| A_ ?_
 exact kf H
 intro H
 refine us 3 rfl <| A_ ?_
 exact kf H
 rintro σ S e ⟨hk, H, rfl⟩
 refine E_ hk <| A_ ?_
 rcases Xa1 h with ⟨hc9, h⟩ | ⟨hc9, h⟩
 refine F_ rfl hc9 <| B_ <| us 1 rfl <| A_ <| Q_ <| H_ <| H_ ?_
 have h := oi h; subst h
 exact Kr (.int .u8 0) rfl rfl
 refine G_ rfl hc9 <| M_ <| C_ <| B_ <| w (.agg XtW) rfl (nz rfl (Xcx (ti := XoC) (ei := ty5) rfl rfl rfl rfl rfl (Xav (cells' := Xwf) rfl rfl rfl rfl (D_ rfl) rfl (Xav (cells' := z22_) rfl rfl rfl rfl (D_ rfl) rfl (Xav (cells' := z20_) rfl rfl rfl rfl (D_ rfl) rfl (Xav (cells' := z18_) rfl rfl rfl rfl (D_ rfl) rfl (Xav (cells' := z16_) rfl rfl rfl rfl (D_ rfl) rfl (Xav (cells' := z14_) rfl rfl rfl rfl (D_ rfl) rfl (Xav (cells' := XtW) rfl rfl rfl rfl (D_ rfl) rfl rfl))))))))) <| us 1 rfl ?_
 obtain ⟨y8, hy8, h⟩ := Xaf h
 refine w (.int .u8 y8) rfl (nz rfl (XeR (f := (eI .u8)) (xs := [0, 97, 0, 101, 103, 105, 107, 109, 111]) rfl rfl rfl rfl rfl hy8)) <| us 1 rfl <| A_ <| Q_ <| H_ ?_
 have h := oi h; subst h
 exact Kr (.int .u8 y8) rfl rfl
 refine G_ rfl hc2 <| M_ <| C_ <| B_ <| w (.agg z1_) rfl (nz rfl (Xcx (ti := Xuh) (ei := ty5) rfl rfl rfl rfl rfl (Xav (cells' := [(.int .u8 0), (.int .u8 96), (.int .u8 0), (.int .u8 0), (.int .u8 0), (.int .u8 0), (.int .u8 0), (.int .u8 0), (.int .u8 0), (.int .u8 0), (.int .u8 0)]) rfl rfl rfl rfl (D_ rfl) rfl (Xav (cells' := [(.int .u8 0), (.int .u8 96), (.int .u8 66), (.int .u8 0), (.int .u8 0), (.int .u8 0), (.int .u8 0), (.int .u8 0), (.int .u8 0), (.int .u8 0), (.int .u8 0)]) rfl rfl rfl rfl (D_ rfl) rfl (Xav (cells' := [(.int .u8 0), (.int .u8 96), (.int .u8 66), (.int .u8 99), (.int .u8 0), (.int .u8 0), (.int .u8 0), (.int .u8 0), (.int .u8 0), (.int .u8 0), (.int .u8 0)]) rfl rfl rfl rfl (D_ rfl) rfl (Xav (cells' := [(.int .u8 0), (.int .u8 96), (.int .u8 66), (.int .u8 99), (.int .u8 102), (.int .u8 0), (.int .u8 0), (.int .u8 0), (.int .u8 0), (.int .u8 0), (.int .u8 0)]) rfl rfl rfl rfl (D_ rfl) rfl (Xav (cells' := [(.int .u8 0), (.int .u8 96), (.int .u8 66), (.int .u8 99), (.int .u8 102), (.int .u8 104), (.int .u8 0), (.int .u8 0), (.int .u8 0), (.int .u8 0), (.int .u8 0)]) rfl rfl rfl rfl (D_ rfl) rfl (Xav (cells' := [(.int .u8 0), (.int .u8 96), (.int .u8 66), (.int .u8 99), (.int .u8 102), (.int .u8 104), (.int .u8 74), (.int .u8 0), (.int .u8 0), (.int .u8 0), (.int .u8 0)]) rfl rfl rfl rfl (D_ rfl) rfl (Xav (cells' := [(.int .u8 0), (.int .u8 96), (.int .u8 66), (.int .u8 99), (.int .u8 102), (.int .u8 104), (.int .u8 74), (.int .u8 108), (.int .u8 0), (.int .u8 0), (.int .u8 0)]) rfl rfl rfl rfl (D_ rfl) rfl (Xav (cells' := [(.int .u8 0), (.int .u8 96), (.int .u8 66), (.int .u8 99), (.int .u8 102), (.int .u8 104), (.int .u8 74), (.int .u8 108), (.int .u8 110), (.int .u8 0), (.int .u8 0)]) rfl rfl rfl rfl (D_ rfl) rfl (Xav (cells' := z1_) rfl rfl rfl rfl (D_ rfl) rfl rfl))))))))))) <| us 1 rfl ?_
 obtain ⟨y3, hy3, h⟩ := Xaf h
 refine w (.int .u8 y3) rfl (nz rfl (XeR (f := (eI .u8)) (xs := [0, 96, 66, 99, 102, 104, 74, 108, 110, 0, 100]) rfl rfl rfl rfl rfl hy3)) <| us 1 rfl <| A_ <| Q_ ?_
 have h := oi h; subst h
 exact Kr (.int .u8 y3) rfl rfl
def F11 (k : Nat) (a0 : Xay) : Option Bool :=
 (if (decide (a0.ID < 0)) || (decide (a0.ID > 2147483647)) then
 some true
 else
 (F30 k a0).bind fun y1 =>
 (F13 k a0 y1).bind fun y2 =>
 some (!y2)).bind fun y3 =>
 (if y3 then
 some true
 else
 (F31 k (some [a0.DN, a0.Pass, a0.RDN, a0.Sup, a0.Attr, a0.Value, a0.Matched])).bind fun y4 =>
 some (!y4)).bind fun y5 =>
 if y5 then
 some false
 else
 if a0.Op == 1 then
 some ((decide (a0.Version ≥ 1)) && (decide (a0.Version ≤ 127)))
 else
 if a0.Op == 3 then
 (if (((decide (a0.Scope ≥ 0)) && (decide (a0.Scope ≤ 2))) && (decide (a0.Size ≥ 0))) && (decide (a0.Size ≤ 2147483647)) then
 (F32 k a0.Filter).bind fun y6 =>
 some y6
 else
 some false).bind fun y7 =>
 (if y7 && (decide ((Sl.len a0.Wants) ≤ 12)) then
 (F31 k a0.Wants).bind fun y8 =>
 some y8
 else
 some false).bind fun y9 =>
 some y9
 else
 if a0.Op == 4 then
 (F33 k a0.Mods 3).bind fun y10 =>
 some y10
 else
 (if a0.Op == 5 then
 some (a0.Op == 5)
 else
 some (a0.Op == 10)).bind fun y11 =>
 if y11 then
 (F33 k a0.Mods 1).bind fun y12 =>
 some y12
 else
 if a0.Op == 9 then
 (F18 k 9 a0.Of).bind fun y13 =>
 some (((y13 != 0) && (decide (a0.Code ≥ 0))) && (decide (a0.Code ≤ 127)))
 else
 some ((decide (a0.Op ≥ 1)) && (decide (a0.Op ≤ 10)))
theorem s11 : ∀ k : Nat, ∀ {a0 : Xay} {r : Bool}, F11 k a0 = some r → Q 11 [(.agg (Xak a0))] (.bool r) := by
 intro k a0 r h
 unfold F11 at h
 refine Qg (pf := XuH) rfl cq rfl fun H => ?_
 refine B_ <| Wb H rfl ?_
 intro i1 S hi1 H
 refine us 1 rfl <| A_ <| I_ <| I_ <| h_ <| wh _ rfl rfl <| Wgh H 0 rfl <| wh (.bool (decide (a0.ID < 0))) rfl rfl <| wh (.bool (decide (a0.ID < 0))) rfl rfl ?_
 refine WH.split 4 (fun σ' => Xa2 ([(1, (.ptr i1 0)), (10, (.bool ((decide (a0.ID < 0)) || (decide (a0.ID > 2147483647)))))]) σ') ?_ ?_
 revert H
 cases hc2 : (decide (a0.ID < 0))
 intro H
 refine d_ rfl rfl <| wh _ rfl rfl <| d_ rfl rfl <| Wgh H 0 rfl <| d_ rfl rfl <| wh _ rfl rfl <| wh _ rfl rfl <| f_ ?_
 exact kn
 intro H
 refine i_ rfl rfl rfl <| i_ rfl rfl rfl <| i_ rfl rfl rfl <| wh _ rfl rfl <| f_ ?_
 exact kn
 intro σ hk
 refine WH.of_known hk <| wh (.bool ((decide (a0.ID < 0)) || (decide (a0.ID > 2147483647)))) rfl rfl ?_
 obtain ⟨y3, hy3, hOy3⟩ := Xaf h
 refine WH.split 6 (fun σ' => Xa2 ([(1, (.ptr i1 0)), (17, (.bool y3))]) σ') ?_ ?_
 replace h := hy3
 revert H
 cases hc4 : ((decide (a0.ID < 0)) || (decide (a0.ID > 2147483647)))
 intro H
 replace h := Xc5 h hc4
 refine d_ rfl rfl <| Wgh H 0 rfl <| d_ rfl rfl <| Wgh H 0 rfl <| d_ rfl rfl ?_
 obtain ⟨y5, hy5, h⟩ := Xaf h
 refine Clh (.agg (Xak y5)) [(.agg (Xak a0))] rfl rfl (sv (s30 _ hy5)) <| d_ rfl rfl ?_
 obtain ⟨y6, hy6, h⟩ := Xaf h
 refine Clh (.bool y6) [(.agg (Xak a0)), (.agg (Xak y5))] rfl rfl (sv (s13 _ hy6)) <| d_ rfl rfl <| wh _ rfl rfl <| wh _ rfl rfl <| f_ ?_
 have h := oi h; subst h
 exact kn
 intro H
 replace h := Xc4 h hc4
 refine i_ rfl rfl rfl <| i_ rfl rfl rfl <| i_ rfl rfl rfl <| i_ rfl rfl rfl <| i_ rfl rfl rfl <| wh _ rfl rfl <| f_ ?_
 have h := oi h; subst h
 exact kn
 rintro σ hk
 replace h := hOy3
 refine WH.of_known hk <| wh (.bool y3) rfl rfl ?_
 obtain ⟨y7, hy7, hOy7⟩ := Xaf h
 refine WD.split 4 (SJ [(1, (.ptr i1 0)), (36, (.bool y7))] [] [] [(i1, .cells (Xak a0))] [] [] false) ?_ ?_
 replace h := hy7
 revert H
 cases hc8 : y3
 intro H
 replace h := Xc5 h hc8
 refine d_ rfl rfl <| wh _ rfl rfl <| d_ rfl rfl <| Wgh H 0 rfl <| d_ rfl rfl <| wh _ rfl rfl <| d_ rfl rfl <| Wgh H 0 rfl <| d_ rfl rfl <| wh _ rfl rfl <| d_ rfl rfl <| Wgh H 0 rfl <| d_ rfl rfl <| wh _ rfl rfl <| d_ rfl rfl <| Wgh H 0 rfl <| d_ rfl rfl <| wh _ rfl rfl <| d_ rfl rfl <| Wgh H 0 rfl <| d_ rfl rfl <| wh _ rfl rfl <| d_ rfl rfl <| Wgh H 0 rfl <| d_ rfl rfl <| wh _ rfl rfl <| d_ rfl rfl <| Wgh H 0 rfl <| f_ <| N_ rfl rfl <| WS rfl (nz rfl (Xaj (ys := [a0.DN, a0.Pass, a0.RDN, a0.Sup, a0.Attr, a0.Value, a0.Matched]) (f := eS) (parts := [(0, (.str a0.DN)), (1, (.str a0.Pass)), (2, (.str a0.RDN)), (3, (.str a0.Sup)), (4, (.str a0.Attr)), (5, (.str a0.Value)), (6, (.str a0.Matched))]) rfl rfl rfl rfl rfl rfl (fc ⟨rfl, rfl⟩ (fc ⟨rfl, rfl⟩ (fc ⟨rfl, rfl⟩ (fc ⟨rfl, rfl⟩ (fc ⟨rfl, rfl⟩ (fc ⟨rfl, rfl⟩ (fc ⟨rfl, rfl⟩ (fun p hp => nomatch hp)))))))) rfl)) ?_
 have hv9 : Xa8 eS (some [a0.DN, a0.Pass, a0.RDN, a0.Sup, a0.Attr, a0.Value, a0.Matched]) _ := ⟨.full, rfl⟩
 refine N_ rfl rfl ?_
 obtain ⟨y10, hy10, h⟩ := Xaf h
 refine Cl (.bool y10) [(.lst (List.map eS [a0.DN, a0.Pass, a0.RDN, a0.Sup, a0.Attr, a0.Value, a0.Matched]) .full)] rfl (Xaw hv9.frz rfl) (s31 _ hy10 (by simp only [hv9.strip, XaX, Xa3, eI, eB, eS, List.map_cons, List.map_nil, Xal] <;> rfl)) <| us 2 rfl <| A_ ?_
 have h := oi h; subst h
 exact kh H
 intro H
 replace h := Xc4 h hc8
 refine i_ rfl rfl rfl <| i_ rfl rfl rfl <| i_ rfl rfl rfl <| i_ rfl rfl rfl <| i_ rfl rfl rfl <| i_ rfl rfl rfl <| i_ rfl rfl rfl <| i_ rfl rfl rfl <| i_ rfl rfl rfl <| i_ rfl rfl rfl <| i_ rfl rfl rfl <| i_ rfl rfl rfl <| i_ rfl rfl rfl <| i_ rfl rfl rfl <| f_ <| us 4 rfl <| A_ ?_
 have h := oi h; subst h
 exact kh H
 rintro σ S e ⟨hk, H, rfl⟩
 replace h := hOy7
 refine E_ hk <| A_ <| C_ ?_
 rcases Xa1 h with ⟨hc11, h⟩ | ⟨hc11, h⟩
 refine F_ rfl hc11 <| B_ <| us 1 rfl <| A_ <| Q_ <| H_ ?_
 have h := oi h; subst h
 exact Kr (.bool false) rfl rfl
 refine G_ rfl hc11 <| M_ <| C_ <| I_ <| B_ <| us 1 rfl <| Wg H 0 rfl <| A_ <| R_ <| B_ <| us 2 rfl <| A_ ?_
 rcases Xa1 h with ⟨hc12, h⟩ | ⟨hc12, h⟩
 refine F_ rfl hc12 <| B_ <| us 1 rfl <| Wg H 0 rfl <| w (.bool (decide (a0.Version ≥ 1))) rfl rfl <| w (.bool (decide (a0.Version ≥ 1))) rfl rfl ?_
 refine O_ 4 (SH H [(48, (.bool ((decide (a0.Version ≥ 1)) && (decide (a0.Version ≤ 127)))))]) ?_ ?_
 revert H
 cases hc13 : (decide (a0.Version ≥ 1))
 intro H
 refine us 4 rfl <| A_ ?_
 exact kf H
 intro H
 refine us 1 rfl <| N_ rfl rfl <| Wg H 0 rfl <| us 2 rfl <| A_ ?_
 exact kf H
 rintro σ S e ⟨hk, H, rfl⟩
 generalize ((decide (a0.Version ≥ 1)) && (decide (a0.Version ≤ 127))) = p0 at hk h
 refine E_ hk <| us 1 rfl <| A_ <| Q_ <| P_ <| H_ ?_
 have h := oi h; subst h
 exact Kr (.bool p0) rfl rfl
 refine G_ rfl hc12 <| B_ <| us 2 rfl <| A_ ?_
 rcases Xa1 h with ⟨hc14, h⟩ | ⟨hc14, h⟩
 refine F_ rfl hc14 <| B_ <| us 1 rfl <| Wg H 0 rfl <| w (.bool (decide (a0.Scope ≥ 0))) rfl rfl <| w (.bool (decide (a0.Scope ≥ 0))) rfl rfl ?_
 refine O_ 4 (SH H [(1, (.ptr i1 0)), (58, (.bool ((decide (a0.Scope ≥ 0)) && (decide (a0.Scope ≤ 2)))))]) ?_ ?_
 revert H
 cases hc15 : (decide (a0.Scope ≥ 0))
 intro H
 refine us 4 rfl <| A_ ?_
 exact kf H
 intro H
 refine us 1 rfl <| N_ rfl rfl <| Wg H 0 rfl <| us 2 rfl <| A_ ?_
 exact kf H
 rintro σ S e ⟨hk, H, rfl⟩
 generalize ((decide (a0.Scope ≥ 0)) && (decide (a0.Scope ≤ 2))) = p1 at hk h
 refine E_ hk <| w (.bool p1) rfl rfl ?_
 refine O_ 4 (SH H [(1, (.ptr i1 0)), (63, (.bool (p1 && (decide (a0.Size ≥ 0)))))]) ?_ ?_
 revert H
 cases hc16 : p1
 intro H
 refine us 4 rfl <| A_ ?_
 exact kf H
 intro H
 refine us 1 rfl <| N_ rfl rfl <| Wg H 0 rfl <| us 2 rfl <| A_ ?_
 exact kf H
 rintro σ S e ⟨hk, H, rfl⟩
 refine E_ hk <| w (.bool (p1 && (decide (a0.Size ≥ 0)))) rfl rfl ?_
 refine O_ 4 (SH H [(1, (.ptr i1 0)), (68, (.bool ((p1 && (decide (a0.Size ≥ 0))) && (decide (a0.Size ≤ 2147483647)))))]) ?_ ?_
 revert H
 cases hc17 : (p1 && (decide (a0.Size ≥ 0)))
 intro H
 refine us 4 rfl <| A_ ?_
 exact kf H
 intro H
 refine us 1 rfl <| N_ rfl rfl <| Wg H 0 rfl <| us 2 rfl <| A_ ?_
 exact kf H
 rintro σ S e ⟨hk, H, rfl⟩
 generalize ((p1 && (decide (a0.Size ≥ 0))) && (decide (a0.Size ≤ 2147483647))) = p2 at hk h
 refine E_ hk <| w (.bool p2) rfl rfl ?_
 obtain ⟨y18, hy18, hOy18⟩ := Xaf h
 refine O_ 4 (SJ [(1, (.ptr i1 0)), (73, (.bool y18))] [] [] [(i1, .cells (Xak a0))] [] [] false) ?_ ?_
 replace h := hy18
 revert H
 cases hc19 : p2
 intro H
 replace h := Xc5 h hc19
 refine us 4 rfl <| A_ ?_
 have h := oi h; subst h
 exact kh H
 intro H
 replace h := Xc4 h hc19
 refine us 1 rfl <| N_ rfl rfl <| Wg H 0 rfl <| N_ rfl rfl ?_
 obtain ⟨y20, hy20, h⟩ := Xaf h
 refine Cl (.bool y20) [(.agg (Xag a0.Filter))] rfl rfl (sv (s32 _ hy20)) <| us 1 rfl <| A_ ?_
 have h := oi h; subst h
 exact kh H
 rintro σ S e ⟨hk, H, rfl⟩
 replace h := hOy18
 refine E_ hk <| us 1 rfl ?_
 refine O_ 5 (SH H [(1, (.ptr i1 0)), (79, (.bool (y18 && (decide ((Sl.len a0.Wants) ≤ 12)))))]) ?_ ?_
 revert H
 cases hc21 : y18
 intro H
 refine us 5 rfl <| A_ ?_
 exact kf H
 intro H
 refine us 1 rfl <| N_ rfl rfl <| Wg H 0 rfl <| N_ rfl rfl <| Wl rfl <| us 2 rfl <| A_ ?_
 exact kf H
 rintro σ S e ⟨hk, H, rfl⟩
 refine E_ hk <| w (.bool (y18 && (decide ((Sl.len a0.Wants) ≤ 12)))) rfl rfl ?_
 obtain ⟨y22, hy22, hOy22⟩ := Xaf h
 refine O_ 4 (SJ [(84, (.bool y22))] [] [] [(i1, .cells (Xak a0))] [] [] false) ?_ ?_
 replace h := hy22
 revert H
 cases hc23 : (y18 && (decide ((Sl.len a0.Wants) ≤ 12)))
 intro H
 replace h := Xc5 h hc23
 refine us 4 rfl <| A_ ?_
 have h := oi h; subst h
 exact kh H
 intro H
 replace h := Xc4 h hc23
 refine us 1 rfl <| N_ rfl rfl <| Wg H 0 rfl <| N_ rfl rfl ?_
 obtain ⟨y24, hy24, h⟩ := Xaf h
 refine Cl (.bool y24) [(Xar eS a0.Wants)] rfl (fe rfl rfl) (sv (s31 _ hy24)) <| us 1 rfl <| A_ ?_
 have h := oi h; subst h
 exact kh H
 rintro σ S e ⟨hk, H, rfl⟩
 replace h := hOy22
 refine E_ hk <| us 1 rfl <| A_ <| Q_ <| P_ <| H_ ?_
 have h := oi h; subst h
 exact Kr (.bool y22) rfl rfl
 refine G_ rfl hc14 <| B_ <| us 2 rfl <| A_ ?_
 rcases Xa1 h with ⟨hc25, h⟩ | ⟨hc25, h⟩
 refine F_ rfl hc25 <| B_ <| us 1 rfl <| Wg H 0 rfl ?_
 obtain ⟨y26, hy26, h⟩ := Xaf h
 refine Cl (.bool y26) [(Xar Xao a0.Mods), (.int .i64 3)] rfl (fe rfl (fo rfl rfl)) (sv (s33 _ hy26)) <| us 1 rfl <| A_ <| Q_ <| P_ <| H_ ?_
 have h := oi h; subst h
 exact Kr (.bool y26) rfl rfl
 refine G_ rfl hc25 <| I_ <| B_ <| us 2 rfl <| A_ ?_
 obtain ⟨y27, hy27, hOy27⟩ := Xaf h
 refine a_ (SJ [(1, (.ptr i1 0)), (38, (.int .i64 a0.Op)), (90, (.bool y27))] [] [] [(i1, .cells (Xak a0))] [] [] false) ?_ ?_
 replace h := hy27
 rcases Xa1 h with ⟨hc28, h⟩ | ⟨hc28, h⟩
 refine F_ rfl hc28 <| M_ <| C_ ?_
 have h := oi h; subst h
 exact kh H
 refine G_ rfl hc28 <| S_ <| us 2 rfl <| A_ <| C_ ?_
 have h := oi h; subst h
 exact kh H
 rintro σ S e ⟨hk, H, rfl⟩
 replace h := hOy27
 refine J_ hk <| C_ ?_
 rcases Xa1 h with ⟨hc29, h⟩ | ⟨hc29, h⟩
 refine F_ rfl hc29 <| B_ <| us 1 rfl <| Wg H 0 rfl ?_
 obtain ⟨y30, hy30, h⟩ := Xaf h
 refine Cl (.bool y30) [(Xar Xao a0.Mods), (.int .i64 1)] rfl (fe rfl (fo rfl rfl)) (sv (s33 _ hy30)) <| us 1 rfl <| A_ <| Q_ <| P_ <| H_ ?_
 have h := oi h; subst h
 exact Kr (.bool y30) rfl rfl
 refine G_ rfl hc29 <| B_ <| us 2 rfl <| A_ ?_
 rcases Xa1 h with ⟨hc31, h⟩ | ⟨hc31, h⟩
 refine F_ rfl hc31 <| B_ <| us 1 rfl <| Wg H 0 rfl ?_
 obtain ⟨y32, hy32, h⟩ := Xaf h
 refine Cl (.int .u8 y32) [(.int .i64 9), (.int .i64 a0.Of)] rfl rfl (s18 _ hy32 rfl) <| w (.bool (y32 != 0)) rfl rfl <| w (.bool (y32 != 0)) rfl rfl ?_
 refine O_ 4 (SH H [(1, (.ptr i1 0)), (106, (.bool ((y32 != 0) && (decide (a0.Code ≥ 0)))))]) ?_ ?_
 revert H
 cases hc33 : (y32 != 0)
 intro H
 refine us 4 rfl <| A_ ?_
 exact kf H
 intro H
 refine us 1 rfl <| N_ rfl rfl <| Wg H 0 rfl <| us 2 rfl <| A_ ?_
 exact kf H
 rintro σ S e ⟨hk, H, rfl⟩
 refine E_ hk <| w (.bool ((y32 != 0) && (decide (a0.Code ≥ 0)))) rfl rfl ?_
 refine O_ 4 (SH H [(111, (.bool (((y32 != 0) && (decide (a0.Code ≥ 0))) && (decide (a0.Code ≤ 127)))))]) ?_ ?_
 revert H
 cases hc34 : ((y32 != 0) && (decide (a0.Code ≥ 0)))
 intro H
 refine us 4 rfl <| A_ ?_
 exact kf H
 intro H
 refine us 1 rfl <| N_ rfl rfl <| Wg H 0 rfl <| us 2 rfl <| A_ ?_
 exact kf H
 rintro σ S e ⟨hk, H, rfl⟩
 generalize (((y32 != 0) && (decide (a0.Code ≥ 0))) && (decide (a0.Code ≤ 127))) = p3 at hk h
 refine E_ hk <| us 1 rfl <| A_ <| Q_ <| P_ <| H_ ?_
 have h := oi h; subst h
 exact Kr (.bool p3) rfl rfl
 refine G_ rfl hc31 <| M_ <| V_ <| C_ <| B_ <| us 1 rfl <| Wg H 0 rfl <| w (.bool (decide (a0.Op ≥ 1))) rfl rfl <| w (.bool (decide (a0.Op ≥ 1))) rfl rfl ?_
 refine O_ 4 (SH H [(119, (.bool ((decide (a0.Op ≥ 1)) && (decide (a0.Op ≤ 10)))))]) ?_ ?_
 revert H
 cases hc35 : (decide (a0.Op ≥ 1))
 intro H
 refine us 4 rfl <| A_ ?_
 exact kf H
 intro H
 refine us 1 rfl <| N_ rfl rfl <| Wg H 0 rfl <| us 2 rfl <| A_ ?_
 exact kf H
 rintro σ S e ⟨hk, H, rfl⟩
 generalize ((decide (a0.Op ≥ 1)) && (decide (a0.Op ≤ 10))) = p4 at hk h
 refine E_ hk <| us 1 rfl <| A_ <| Q_ ?_
 have h := oi h; subst h
 exact Kr (.bool p4) rfl rfl
end Go.Proofs.YtbinlabnilidiaaGreatDoor.M
