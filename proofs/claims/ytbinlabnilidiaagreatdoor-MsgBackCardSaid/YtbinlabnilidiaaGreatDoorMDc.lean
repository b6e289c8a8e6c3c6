/- Part of the proof: the runs of functions on the abstract machine. -/
import Derived.Test.YtbinlabnilidiaaGreatDoorPamM4
import Derived.Test.YtbinlabnilidiaaGreatDoorFns
import Derived.Test.YtbinlabnilidiaaGreatDoorMDe
namespace Go.Proofs.YtbinlabnilidiaaGreatDoor.M
open Go Go.Pam Go.RowKit Go.WideShapes
set_option maxRecDepth 8000
set_option linter.unusedVariables false
set_option linter.unusedSimpArgs false

def F39_L0 (k : Nat) (a29 : Sl Str) (a30 : Sl Str) (a31 : Int) : Nat → Int → Option (Out Bool Int)
 | 0, _ => none
 | n + 1, x32 =>
  if decide (x32 < a31) then
  Option.bind (Sl.at? a29 x32) fun y38 =>
  Option.bind (Sl.at? a30 x32) fun y39 =>
  if !(y38 == y39) then
  some (Out.ret false)
  else
  F39_L0 k a29 a30 a31 n (ad .i64 x32 1)
  else
  some (Out.brk x32)
def F39 (k : Nat) (a0 : Sl Str) (a1 : Sl Str) : Option Bool :=
 if (Sl.len a0) != (Sl.len a1) then
 some false
 else
 Option.bind (F39_L0 k a0 a1 (Sl.len a0) k 0) fun y43 =>
 match y43 with
 | .ret y43r => some y43r
 | .brk y43b =>
 some true
theorem l39_L0 {k : Nat} {a29 : Sl Str} {a30 : Sl Str} {a31 : Int} {S0 : List SObj} {R : List Nat} {K : KX}  {o : Out Bool Int}
  (hret : ∀ r : Bool, o = .ret r → EK [(4, (.bool r))] S0 R [] [] [] (K .ret))
  (hbrk : ∀ y : Int, o = .brk y → EK [] S0 R [] [] [] (K (.exit 0))) :
  ∀ {n : Nat} {x32 : Int}, F39_L0 k a29 a30 a31 n x32 = some o → ∀ {σ : Nat → PV} {S : List SObj}, Known [(0, (encSl eS a29)), (1, (encSl eS a30)), (12, (.int .i64 a31)), (13, (.int .i64 x32))] σ → Hp S0 R S [] [] [] → WC env ⟨26, S0.length⟩ (.loop pc39L0) σ S false K := by
 intro n
 induction n with
 | zero => intro _ h; cases h
 | succ n ih =>
  intro x32 h σ S  hk H
  rw [F39_L0] at h
  refine h_ <| b_ hk <| B_ <| us 1 rfl <| A_ <| J_ ?_
  rcases iteS h with ⟨hc42, h⟩ | ⟨hc42, h⟩
  refine G_ rfl hc42 <| N_ <| D_ <| J_ <| P_ <| B_ <| us 2 rfl <| A_ <| J_ <| o_ <| wh (encSl eS a29) rfl rfl <| wh (.int .i64 x32) rfl rfl ?_
  obtain ⟨y38, hy38, h⟩ := bindS h
  refine T_ (v := (.iptr [(.str y38)] 0)) rfl (nz rfl (X_ rfl (W_ _ _) rfl rfl rfl hy38 rfl rfl)) rfl rfl <| wh (.str y38) rfl rfl <| wh (encSl eS a30) rfl rfl <| wh (.int .i64 x32) rfl rfl ?_
  obtain ⟨y39, hy39, h⟩ := bindS h
  refine T_ (v := (.iptr [(.str y39)] 0)) rfl (nz rfl (X_ rfl (W_ _ _) rfl rfl rfl hy39 rfl rfl)) rfl rfl <| wh (.str y39) rfl rfl <| m_ <| us 1 rfl <| A_ <| D_ ?_
  rcases iteS h with ⟨hc41, h⟩ | ⟨hc41, h⟩
  refine G_ rfl hc41 <| B_ <| us 1 rfl <| A_ <| R_ <| M_ <| I_ <| I_ ?_
  have h := oi h; subst h
  exact hret _ rfl kn (hs H)
  refine H_ rfl hc41 <| N_ <| Z_ <| D_ <| V_ <| us 2 rfl <| A_ <| D_ ?_
  exact ih h  kn (hs H)
  refine H_ rfl hc42 <| a_ <| F_ <| F_ ?_
  have h := oi h; subst h
  exact hbrk _ rfl  q_ (hs H)
theorem s39 : ∀ k : Nat, ∀ {a0 : Sl Str} {a1 : Sl Str} {r : Bool}, F39 k a0 a1 = some r → Q 39 [(encSl eS a0), (encSl eS a1)] (.bool r) := by
 intro k a0 a1 r h
 unfold F39 at h
 refine j_ (pf := fn39) rfl rfl (C_ rfl) (by simp [PV.clean, cleanL, clean_encSl clean_eS]) rfl rfl fun H => ?_
 refine B_ <| us 1 rfl <| A_ <| J_ <| B_ <| us 1 rfl <| wl rfl rfl rfl <| us 1 rfl <| wl rfl rfl rfl <| us 1 rfl <| A_ ?_
 rcases iteS h with ⟨hc44, h⟩ | ⟨hc44, h⟩
 refine G_ rfl hc44 <| B_ <| us 1 rfl <| A_ <| R_ <| I_ ?_
 have h := oi h; subst h
 exact kr (.bool false) rfl rfl rfl
 refine H_ rfl hc44 <| N_ <| D_ <| J_ <| B_ <| us 1 rfl <| wl rfl rfl rfl <| us 1 rfl <| A_ ?_
 obtain ⟨y43, hy43, hOy43⟩ := bindS h
 refine P_ ?_
 refine l39_L0 ?_ ?_ hy43  kn (hs H)
 intro y43r he σ S  hk H; subst he; replace h := hOy43; dsimp only at h
 refine K_ hk <| M_ <| I_ ?_
 have h := oi h; subst h
 exact kr (.bool y43r) rfl rfl rfl
 intro y43b he σ S  hk H; subst he; replace h := hOy43; dsimp only at h
 refine K_ hk <| U_ <| D_ <| B_ <| us 1 rfl <| A_ <| R_ ?_
 have h := oi h; subst h
 exact kr (.bool true) rfl rfl rfl
def F71_38_L0 (rc0 : Api_Filter → Api_Filter → Option Bool) (k : Nat) (a41 : Sl Api_Filter) (a42 : Sl Api_Filter) (a43 : Int) : Nat → Int → Option (Out Bool Int)
 | 0, _ => none
 | n + 1, x44 =>
  if decide (x44 < a43) then
  Option.bind (Sl.at? a42 x44) fun y53 =>
  Option.bind (Sl.at? a41 x44) fun y55 =>
  Option.bind (rc0 y53 y55) fun y57 =>
  if !y57 then
  some (Out.ret false)
  else
  F71_38_L0 rc0 k a41 a42 a43 n (ad .i64 x44 1)
  else
  some (Out.brk x44)
def F71_38 (k : Nat) (rc0 : Api_Filter → Api_Filter → Option Bool) (a0 : Sl Api_Filter) (a1 : Sl Api_Filter) : Option Bool :=
 if (Sl.len a0) != (Sl.len a1) then
 some false
 else
 Option.bind (F71_38_L0 rc0 k a1 a0 (Sl.len a0) k 0) fun y61 =>
 match y61 with
 | .ret y61r => some y61r
 | .brk y61b =>
 some true
theorem l71_38_L0 {rc0 : Api_Filter → Api_Filter → Option Bool} (hrc0 : ∀ {a0 : Api_Filter} {a1 : Api_Filter} {r : Bool}, rc0 a0 a1 = some r → Q 38 [(.agg (c_Api_Filter a0)), (.agg (c_Api_Filter a1))] (.bool r)) {k : Nat} {a41 : Sl Api_Filter} {a42 : Sl Api_Filter} {a43 : Int} {S0 : List SObj} {R : List Nat} {K : KX}  {o : Out Bool Int}
  (hret : ∀ r : Bool, o = .ret r → EK [(6, (.bool r))] S0 R [] [] [] (K .ret))
  (hbrk : ∀ y : Int, o = .brk y → EK [] S0 R [] [] [] (K (.exit 0))) :
  ∀ {n : Nat} {x44 : Int}, F71_38_L0 rc0 k a41 a42 a43 n x44 = some o → ∀ {σ : Nat → PV} {S : List SObj}, Known [(1, (encSl e_Api_Filter a41)), (2, (.fn (.func 38) [] [])), (15, (encSl e_Api_Filter a42)), (16, (.int .i64 a43)), (17, (.int .i64 x44))] σ → Hp S0 R S [] [] [] → WC env ⟨32, S0.length⟩ (.loop pc71L0) σ S false K := by
 intro n
 induction n with
 | zero => intro _ h; cases h
 | succ n ih =>
  intro x44 h σ S  hk H
  rw [F71_38_L0] at h
  refine h_ <| b_ hk <| B_ <| us 1 rfl <| A_ <| J_ ?_
  rcases iteS h with ⟨hc60, h⟩ | ⟨hc60, h⟩
  refine G_ rfl hc60 <| N_ <| D_ <| J_ <| P_ <| B_ <| us 1 rfl ?_
  obtain ⟨y53, hy53, h⟩ := bindS h
  refine w (.iptr (c_Api_Filter y53) 0) rfl (nz rfl (X_ rfl (W_ _ _) rfl rfl rfl hy53 (e_Api_Filter_cells _) rfl)) <| us 1 rfl <| d_ (ti := ty25) rfl rfl rfl rfl H ?_
  intro i54 S hi54 H
  refine us 1 rfl <| wos 0 H hi54 rfl rfl rfl rfl rfl rfl rfl rfl rfl rfl ?_
  intro S H
  refine A_ <| B_ <| us 2 rfl ?_
  obtain ⟨y55, hy55, h⟩ := bindS h
  refine w (.iptr (c_Api_Filter y55) 0) rfl (nz rfl (X_ rfl (W_ _ _) rfl rfl rfl hy55 (e_Api_Filter_cells _) rfl)) <| us 1 rfl <| d_ (ti := ty25) rfl rfl rfl rfl H ?_
  intro i56 S hi56 H
  refine wos 0 H hi56 rfl rfl rfl rfl rfl rfl rfl rfl rfl rfl ?_
  intro S H
  replace H : Hp S0 R _ [(i56, .cells (c_Api_Filter y55)), (i54, .cells (c_Api_Filter y53))] [] [] := H
  refine A_ <| B_ <| us 1 rfl <| wg H 1 rfl rfl rfl rfl <| wg H 0 rfl rfl rfl rfl ?_
  obtain ⟨y57, hy57, h⟩ := bindS h
  refine cl (.bool y57) [(.agg (c_Api_Filter y53)), (.agg (c_Api_Filter y55))] rfl rfl rfl rfl (sv (hrc0 hy57)) <| us 1 rfl <| A_ ?_
  rcases iteS h with ⟨hc59, h⟩ | ⟨hc59, h⟩
  refine G_ rfl hc59 <| B_ <| us 1 rfl <| A_ <| R_ <| M_ <| I_ <| I_ ?_
  have h := oi h; subst h
  exact hret _ rfl kn (H.sub (.cons _ (.cons _ .slnil)) .slnil .slnil)
  refine H_ rfl hc59 <| N_ <| Z_ <| D_ <| V_ <| us 2 rfl <| A_ <| D_ ?_
  exact ih h  kn (H.sub (.cons _ (.cons _ .slnil)) .slnil .slnil)
  refine H_ rfl hc60 <| a_ <| F_ <| F_ ?_
  have h := oi h; subst h
  exact hbrk _ rfl  q_ (hs H)
theorem s71_38 {rc0 : Api_Filter → Api_Filter → Option Bool} (hrc0 : ∀ {a0 : Api_Filter} {a1 : Api_Filter} {r : Bool}, rc0 a0 a1 = some r → Q 38 [(.agg (c_Api_Filter a0)), (.agg (c_Api_Filter a1))] (.bool r))  : ∀ k : Nat, ∀ {a0 : Sl Api_Filter} {a1 : Sl Api_Filter} {r : Bool}, F71_38 k rc0 a0 a1 = some r → Q 71 [(encSl e_Api_Filter a0), (encSl e_Api_Filter a1), (.fn (.func 38) [] [])] (.bool r) := by
 intro k a0 a1 r h
 unfold F71_38 at h
 refine j_ (pf := fn71) rfl rfl (C_ rfl) (by simp [PV.clean, cleanL, clean_encSl clean_Api_Filter]) rfl rfl fun H => ?_
 refine B_ <| us 1 rfl <| A_ <| J_ <| B_ <| us 1 rfl <| wl rfl rfl rfl <| us 1 rfl <| wl rfl rfl rfl <| us 1 rfl <| A_ ?_
 rcases iteS h with ⟨hc62, h⟩ | ⟨hc62, h⟩
 refine G_ rfl hc62 <| B_ <| us 1 rfl <| A_ <| R_ <| I_ ?_
 have h := oi h; subst h
 exact kr (.bool false) rfl rfl rfl
 refine H_ rfl hc62 <| N_ <| D_ <| J_ <| B_ <| us 1 rfl <| wl rfl rfl rfl <| us 1 rfl <| A_ ?_
 obtain ⟨y61, hy61, hOy61⟩ := bindS h
 refine P_ ?_
 refine l71_38_L0 hrc0 ?_ ?_ hy61  kn (hs H)
 intro y61r he σ S  hk H; subst he; replace h := hOy61; dsimp only at h
 refine K_ hk <| M_ <| I_ ?_
 have h := oi h; subst h
 exact kr (.bool y61r) rfl rfl rfl
 intro y61b he σ S  hk H; subst he; replace h := hOy61; dsimp only at h
 refine K_ hk <| U_ <| D_ <| B_ <| us 1 rfl <| A_ <| R_ ?_
 have h := oi h; subst h
 exact kr (.bool true) rfl rfl rfl
def F38 : Nat → Api_Filter → Api_Filter → Option Bool
 | 0, _, _ => none
 | k + 1, a0, a1 =>
  Option.bind (if ((a0.Kind == a1.Kind) && (a0.Attr == a1.Attr)) && (a0.Value == a1.Value) then
  Option.bind (F39 k a0.Subs a1.Subs) fun y10 =>
  some y10
  else
  some false) fun y9 =>
  Option.bind (if y9 then
  Option.bind (F71_38 k (F38 k) a0.Kids a1.Kids) fun y17 =>
  some y17
  else
  some false) fun y16 =>
  some y16
theorem s38 : ∀ k : Nat, ∀ {a0 : Api_Filter} {a1 : Api_Filter} {r : Bool}, F38 k a0 a1 = some r → Q 38 [(.agg (c_Api_Filter a0)), (.agg (c_Api_Filter a1))] (.bool r) := by
 intro k
 induction k with
 | zero => intro _ _ r h; cases h
 | succ k ih =>
  intro a0 a1 r h
  rw [F38] at h
  refine j_ (pf := fn38) rfl rfl (C_ rfl) (by simp [PV.clean, cleanL, clean_encSl clean_Api_Filter, clean_encSl clean_eS]) rfl rfl fun H => ?_
  refine B_ <| g_ rfl rfl rfl rfl rfl H ?_
  intro i1 S hi1 H
  refine g_ rfl rfl rfl rfl rfl H ?_
  intro i2 S hi2 H
  refine us 1 rfl <| A_ <| B_ <| us 1 rfl <| wg H 1 rfl rfl rfl rfl <| us 1 rfl <| wg H 0 rfl rfl rfl rfl <| w (.bool (a0.Kind == a1.Kind)) rfl rfl <| w (.bool (a0.Kind == a1.Kind)) rfl rfl ?_
  refine O_ 6 (SH H [(2, (.ptr i1 0)), (3, (.ptr i2 0)), (16, (.bool ((a0.Kind == a1.Kind) && (a0.Attr == a1.Attr))))]) ?_ ?_
  revert H
  cases hc3 : (a0.Kind == a1.Kind)
  intro H
  refine us 6 rfl <| A_ ?_
  exact kf H
  intro H
  refine us 1 rfl <| L_ rfl rfl <| wg H 1 rfl rfl rfl rfl <| us 1 rfl <| L_ rfl rfl <| wg H 0 rfl rfl rfl rfl <| us 2 rfl <| A_ ?_
  exact kf H
  rintro σ S e ⟨hk, H, rfl⟩
  refine E_ hk <| w (.bool ((a0.Kind == a1.Kind) && (a0.Attr == a1.Attr))) rfl rfl ?_
  refine O_ 6 (SH H [(2, (.ptr i1 0)), (3, (.ptr i2 0)), (23, (.bool (((a0.Kind == a1.Kind) && (a0.Attr == a1.Attr)) && (a0.Value == a1.Value))))]) ?_ ?_
  revert H
  cases hc4 : ((a0.Kind == a1.Kind) && (a0.Attr == a1.Attr))
  intro H
  refine us 6 rfl <| A_ ?_
  exact kf H
  intro H
  refine us 1 rfl <| L_ rfl rfl <| wg H 1 rfl rfl rfl rfl <| us 1 rfl <| L_ rfl rfl <| wg H 0 rfl rfl rfl rfl <| us 2 rfl <| A_ ?_
  exact kf H
  rintro σ S e ⟨hk, H, rfl⟩
  refine E_ hk <| w (.bool (((a0.Kind == a1.Kind) && (a0.Attr == a1.Attr)) && (a0.Value == a1.Value))) rfl rfl ?_
  obtain ⟨y9, hy9, hOy9⟩ := bindS h
  refine O_ 6 (SJ [(2, (.ptr i1 0)), (3, (.ptr i2 0)), (30, (.bool y9))] [] [] [(i2, .cells (c_Api_Filter a1)), (i1, .cells (c_Api_Filter a0))] [] [] false) ?_ ?_
  replace h := hy9
  revert H
  cases hc11 : (((a0.Kind == a1.Kind) && (a0.Attr == a1.Attr)) && (a0.Value == a1.Value))
  intro H
  replace h := iteF h hc11
  refine us 6 rfl <| A_ ?_
  have h := oi h; subst h
  exact kh H
  intro H
  replace h := iteT h hc11
  refine us 1 rfl <| L_ rfl rfl <| wg H 1 rfl rfl rfl rfl <| us 1 rfl <| L_ rfl rfl <| wg H 0 rfl rfl rfl rfl <| L_ rfl rfl ?_
  obtain ⟨y10, hy10, h⟩ := bindS h
  refine cl (.bool y10) [(encSl eS a0.Subs), (encSl eS a1.Subs)] rfl rfl rfl (fe rfl (fe rfl rfl)) (sv (s39 _ hy10)) <| us 1 rfl <| A_ ?_
  have h := oi h; subst h
  exact kh H
  rintro σ S e ⟨hk, H, rfl⟩
  replace h := hOy9
  refine E_ hk <| us 1 rfl ?_
  obtain ⟨y16, hy16, hOy16⟩ := bindS h
  refine O_ 6 (SJ [(37, (.bool y16))] [] [] [(i2, .cells (c_Api_Filter a1)), (i1, .cells (c_Api_Filter a0))] [] [] false) ?_ ?_
  replace h := hy16
  revert H
  cases hc18 : y9
  intro H
  replace h := iteF h hc18
  refine us 6 rfl <| A_ ?_
  have h := oi h; subst h
  exact kh H
  intro H
  replace h := iteT h hc18
  refine us 1 rfl <| L_ rfl rfl <| wg H 1 rfl rfl rfl rfl <| us 1 rfl <| L_ rfl rfl <| wg H 0 rfl rfl rfl rfl <| L_ rfl rfl ?_
  obtain ⟨y17, hy17, h⟩ := bindS h
  refine cl (.bool y17) [(encSl e_Api_Filter a0.Kids), (encSl e_Api_Filter a1.Kids), (.fn (.func 38) [] [])] rfl rfl rfl (fe rfl (fe rfl (fo rfl rfl))) (sv (s71_38 ih _ hy17)) <| us 1 rfl <| A_ ?_
  have h := oi h; subst h
  exact kh H
  rintro σ S e ⟨hk, H, rfl⟩
  replace h := hOy16
  refine E_ hk <| us 1 rfl <| A_ <| R_ ?_
  have h := oi h; subst h
  exact kr (.bool y16) rfl rfl rfl
def F41 (k : Nat) (a0 : Api_Mod) (a1 : Api_Mod) : Option Bool :=
 Option.bind (if (a0.Kind == a1.Kind) && (a0.Attr == a1.Attr) then
 Option.bind (F39 k a0.Values a1.Values) fun y9 =>
 some y9
 else
 some false) fun y8 =>
 some y8
theorem s41 : ∀ k : Nat, ∀ {a0 : Api_Mod} {a1 : Api_Mod} {r : Bool}, F41 k a0 a1 = some r → Q 41 [(.agg (c_Api_Mod a0)), (.agg (c_Api_Mod a1))] (.bool r) := by
 intro k a0 a1 r h
 unfold F41 at h
 refine j_ (pf := fn41) rfl rfl (C_ rfl) (by simp [PV.clean, cleanL, clean_encSl clean_eS]) rfl rfl fun H => ?_
 refine B_ <| g_ rfl rfl rfl rfl rfl H ?_
 intro i1 S hi1 H
 refine g_ rfl rfl rfl rfl rfl H ?_
 intro i2 S hi2 H
 refine us 1 rfl <| A_ <| B_ <| us 1 rfl <| wg H 1 rfl rfl rfl rfl <| us 1 rfl <| wg H 0 rfl rfl rfl rfl <| w (.bool (a0.Kind == a1.Kind)) rfl rfl <| w (.bool (a0.Kind == a1.Kind)) rfl rfl ?_
 refine O_ 6 (SH H [(2, (.ptr i1 0)), (3, (.ptr i2 0)), (16, (.bool ((a0.Kind == a1.Kind) && (a0.Attr == a1.Attr))))]) ?_ ?_
 revert H
 cases hc3 : (a0.Kind == a1.Kind)
 intro H
 refine us 6 rfl <| A_ ?_
 exact kf H
 intro H
 refine us 1 rfl <| L_ rfl rfl <| wg H 1 rfl rfl rfl rfl <| us 1 rfl <| L_ rfl rfl <| wg H 0 rfl rfl rfl rfl <| us 2 rfl <| A_ ?_
 exact kf H
 rintro σ S e ⟨hk, H, rfl⟩
 refine E_ hk <| w (.bool ((a0.Kind == a1.Kind) && (a0.Attr == a1.Attr))) rfl rfl ?_
 obtain ⟨y8, hy8, hOy8⟩ := bindS h
 refine O_ 6 (SJ [(23, (.bool y8))] [] [] [(i2, .cells (c_Api_Mod a1)), (i1, .cells (c_Api_Mod a0))] [] [] false) ?_ ?_
 replace h := hy8
 revert H
 cases hc10 : ((a0.Kind == a1.Kind) && (a0.Attr == a1.Attr))
 intro H
 replace h := iteF h hc10
 refine us 6 rfl <| A_ ?_
 have h := oi h; subst h
 exact kh H
 intro H
 replace h := iteT h hc10
 refine us 1 rfl <| L_ rfl rfl <| wg H 1 rfl rfl rfl rfl <| us 1 rfl <| L_ rfl rfl <| wg H 0 rfl rfl rfl rfl <| L_ rfl rfl ?_
 obtain ⟨y9, hy9, h⟩ := bindS h
 refine cl (.bool y9) [(encSl eS a0.Values), (encSl eS a1.Values)] rfl rfl rfl (fe rfl (fe rfl rfl)) (sv (s39 _ hy9)) <| us 1 rfl <| A_ ?_
 have h := oi h; subst h
 exact kh H
 rintro σ S e ⟨hk, H, rfl⟩
 replace h := hOy8
 refine E_ hk <| us 1 rfl <| A_ <| R_ ?_
 have h := oi h; subst h
 exact kr (.bool y8) rfl rfl rfl
def F40_41_L0 (k : Nat) (a41 : Sl Api_Mod) (a42 : Sl Api_Mod) (a43 : Int) : Nat → Int → Option (Out Bool Int)
 | 0, _ => none
 | n + 1, x44 =>
  if decide (x44 < a43) then
  Option.bind (Sl.at? a42 x44) fun y53 =>
  Option.bind (Sl.at? a41 x44) fun y55 =>
  Option.bind (F41 k y53 y55) fun y57 =>
  if !y57 then
  some (Out.ret false)
  else
  F40_41_L0 k a41 a42 a43 n (ad .i64 x44 1)
  else
  some (Out.brk x44)
def F40_41 (k : Nat) (a0 : Sl Api_Mod) (a1 : Sl Api_Mod) : Option Bool :=
 if (Sl.len a0) != (Sl.len a1) then
 some false
 else
 Option.bind (F40_41_L0 k a1 a0 (Sl.len a0) k 0) fun y61 =>
 match y61 with
 | .ret y61r => some y61r
 | .brk y61b =>
 some true
theorem l40_41_L0 {k : Nat} {a41 : Sl Api_Mod} {a42 : Sl Api_Mod} {a43 : Int} {S0 : List SObj} {R : List Nat} {K : KX}  {o : Out Bool Int}
  (hret : ∀ r : Bool, o = .ret r → EK [(6, (.bool r))] S0 R [] [] [] (K .ret))
  (hbrk : ∀ y : Int, o = .brk y → EK [] S0 R [] [] [] (K (.exit 0))) :
  ∀ {n : Nat} {x44 : Int}, F40_41_L0 k a41 a42 a43 n x44 = some o → ∀ {σ : Nat → PV} {S : List SObj}, Known [(1, (encSl e_Api_Mod a41)), (2, (.fn (.func 41) [] [])), (15, (encSl e_Api_Mod a42)), (16, (.int .i64 a43)), (17, (.int .i64 x44))] σ → Hp S0 R S [] [] [] → WC env ⟨32, S0.length⟩ (.loop pc40L0) σ S false K := by
 intro n
 induction n with
 | zero => intro _ h; cases h
 | succ n ih =>
  intro x44 h σ S  hk H
  rw [F40_41_L0] at h
  refine h_ <| b_ hk <| B_ <| us 1 rfl <| A_ <| J_ ?_
  rcases iteS h with ⟨hc60, h⟩ | ⟨hc60, h⟩
  refine G_ rfl hc60 <| N_ <| D_ <| J_ <| P_ <| B_ <| us 1 rfl ?_
  obtain ⟨y53, hy53, h⟩ := bindS h
  refine w (.iptr (c_Api_Mod y53) 0) rfl (nz rfl (X_ rfl (W_ _ _) rfl rfl rfl hy53 (e_Api_Mod_cells _) rfl)) <| us 1 rfl <| d_ (ti := ty45) rfl rfl rfl rfl H ?_
  intro i54 S hi54 H
  refine us 1 rfl <| wos 0 H hi54 rfl rfl rfl rfl rfl rfl rfl rfl rfl rfl ?_
  intro S H
  refine A_ <| B_ <| us 2 rfl ?_
  obtain ⟨y55, hy55, h⟩ := bindS h
  refine w (.iptr (c_Api_Mod y55) 0) rfl (nz rfl (X_ rfl (W_ _ _) rfl rfl rfl hy55 (e_Api_Mod_cells _) rfl)) <| us 1 rfl <| d_ (ti := ty45) rfl rfl rfl rfl H ?_
  intro i56 S hi56 H
  refine wos 0 H hi56 rfl rfl rfl rfl rfl rfl rfl rfl rfl rfl ?_
  intro S H
  replace H : Hp S0 R _ [(i56, .cells (c_Api_Mod y55)), (i54, .cells (c_Api_Mod y53))] [] [] := H
  refine A_ <| B_ <| us 1 rfl <| wg H 1 rfl rfl rfl rfl <| wg H 0 rfl rfl rfl rfl ?_
  obtain ⟨y57, hy57, h⟩ := bindS h
  refine cl (.bool y57) [(.agg (c_Api_Mod y53)), (.agg (c_Api_Mod y55))] rfl rfl rfl rfl (sv (s41 _ hy57)) <| us 1 rfl <| A_ ?_
  rcases iteS h with ⟨hc59, h⟩ | ⟨hc59, h⟩
  refine G_ rfl hc59 <| B_ <| us 1 rfl <| A_ <| R_ <| M_ <| I_ <| I_ ?_
  have h := oi h; subst h
  exact hret _ rfl kn (H.sub (.cons _ (.cons _ .slnil)) .slnil .slnil)
  refine H_ rfl hc59 <| N_ <| Z_ <| D_ <| V_ <| us 2 rfl <| A_ <| D_ ?_
  exact ih h  kn (H.sub (.cons _ (.cons _ .slnil)) .slnil .slnil)
  refine H_ rfl hc60 <| a_ <| F_ <| F_ ?_
  have h := oi h; subst h
  exact hbrk _ rfl  q_ (hs H)
theorem s40_41 : ∀ k : Nat, ∀ {a0 : Sl Api_Mod} {a1 : Sl Api_Mod} {r : Bool}, F40_41 k a0 a1 = some r → Q 40 [(encSl e_Api_Mod a0), (encSl e_Api_Mod a1), (.fn (.func 41) [] [])] (.bool r) := by
 intro k a0 a1 r h
 unfold F40_41 at h
 refine j_ (pf := fn40) rfl rfl (C_ rfl) (by simp [PV.clean, cleanL, clean_encSl clean_Api_Mod]) rfl rfl fun H => ?_
 refine B_ <| us 1 rfl <| A_ <| J_ <| B_ <| us 1 rfl <| wl rfl rfl rfl <| us 1 rfl <| wl rfl rfl rfl <| us 1 rfl <| A_ ?_
 rcases iteS h with ⟨hc62, h⟩ | ⟨hc62, h⟩
 refine G_ rfl hc62 <| B_ <| us 1 rfl <| A_ <| R_ <| I_ ?_
 have h := oi h; subst h
 exact kr (.bool false) rfl rfl rfl
 refine H_ rfl hc62 <| N_ <| D_ <| J_ <| B_ <| us 1 rfl <| wl rfl rfl rfl <| us 1 rfl <| A_ ?_
 obtain ⟨y61, hy61, hOy61⟩ := bindS h
 refine P_ ?_
 refine l40_41_L0 ?_ ?_ hy61  kn (hs H)
 intro y61r he σ S  hk H; subst he; replace h := hOy61; dsimp only at h
 refine K_ hk <| M_ <| I_ ?_
 have h := oi h; subst h
 exact kr (.bool y61r) rfl rfl rfl
 intro y61b he σ S  hk H; subst he; replace h := hOy61; dsimp only at h
 refine K_ hk <| U_ <| D_ <| B_ <| us 1 rfl <| A_ <| R_ ?_
 have h := oi h; subst h
 exact kr (.bool true) rfl rfl rfl
def F13 (k : Nat) (a0 : Api_Msg) (a1 : Api_Msg) : Option Bool :=
 Option.bind (F38 k a0.Filter a1.Filter) fun y3 =>
 Option.bind (if y3 then
 Option.bind (F39 k a0.Wants a1.Wants) fun y9 =>
 some y9
 else
 some false) fun y8 =>
 Option.bind (if y8 then
 Option.bind (F40_41 k a0.Mods a1.Mods) fun y16 =>
 some y16
 else
 some false) fun y15 =>
 some (((((((((y15 && (((((((a0.ID == a1.ID) && (a0.Op == a1.Op)) && (a0.Of == a1.Of)) && (a0.Version == a1.Version)) && (a0.Scope == a1.Scope)) && (a0.Size == a1.Size)) && (a0.Code == a1.Code))) && ((a0.DelOld == a1.DelOld) && (a0.HasSup == a1.HasSup))) && (a0.DN == a1.DN)) && (a0.Pass == a1.Pass)) && (a0.RDN == a1.RDN)) && (a0.Sup == a1.Sup)) && (a0.Attr == a1.Attr)) && (a0.Value == a1.Value)) && (a0.Matched == a1.Matched))
theorem s13 : ∀ k : Nat, ∀ {a0 : Api_Msg} {a1 : Api_Msg} {r : Bool}, F13 k a0 a1 = some r → Q 13 [(.agg (c_Api_Msg a0)), (.agg (c_Api_Msg a1))] (.bool r) := by
 intro k a0 a1 r h
 unfold F13 at h
 refine j_ (pf := fn13) rfl rfl (C_ rfl) (by simp [PV.clean, cleanL, clean_encSl clean_Api_Filter, clean_encSl clean_Api_Mod, clean_encSl clean_eS]) rfl rfl fun H => ?_
 refine B_ <| g_ rfl rfl rfl rfl rfl H ?_
 intro i1 S hi1 H
 refine g_ rfl rfl rfl rfl rfl H ?_
 intro i2 S hi2 H
 refine us 1 rfl <| A_ <| B_ <| us 1 rfl <| wg H 1 rfl rfl rfl rfl <| us 1 rfl <| wg H 0 rfl rfl rfl rfl ?_
 obtain ⟨y3, hy3, h⟩ := bindS h
 refine cl (.bool y3) [(.agg (c_Api_Filter a0.Filter)), (.agg (c_Api_Filter a1.Filter))] rfl rfl rfl rfl (sv (s38 _ hy3)) <| us 1 rfl ?_
 obtain ⟨y8, hy8, hOy8⟩ := bindS h
 refine O_ 6 (SJ [(2, (.ptr i1 0)), (3, (.ptr i2 0)), (19, (.bool y8))] [] [] [(i2, .cells (c_Api_Msg a1)), (i1, .cells (c_Api_Msg a0))] [] [] false) ?_ ?_
 replace h := hy8
 revert H
 cases hc10 : y3
 intro H
 replace h := iteF h hc10
 refine us 6 rfl <| A_ ?_
 have h := oi h; subst h
 exact kh H
 intro H
 replace h := iteT h hc10
 refine us 1 rfl <| L_ rfl rfl <| wg H 1 rfl rfl rfl rfl <| us 1 rfl <| L_ rfl rfl <| wg H 0 rfl rfl rfl rfl <| L_ rfl rfl ?_
 obtain ⟨y9, hy9, h⟩ := bindS h
 refine cl (.bool y9) [(encSl eS a0.Wants), (encSl eS a1.Wants)] rfl rfl rfl (fe rfl (fe rfl rfl)) (sv (s39 _ hy9)) <| us 1 rfl <| A_ ?_
 have h := oi h; subst h
 exact kh H
 rintro σ S e ⟨hk, H, rfl⟩
 replace h := hOy8
 refine E_ hk <| us 1 rfl ?_
 obtain ⟨y15, hy15, hOy15⟩ := bindS h
 refine O_ 6 (SJ [(2, (.ptr i1 0)), (3, (.ptr i2 0)), (26, (.bool y15))] [] [] [(i2, .cells (c_Api_Msg a1)), (i1, .cells (c_Api_Msg a0))] [] [] false) ?_ ?_
 replace h := hy15
 revert H
 cases hc17 : y8
 intro H
 replace h := iteF h hc17
 refine us 6 rfl <| A_ ?_
 have h := oi h; subst h
 exact kh H
 intro H
 replace h := iteT h hc17
 refine us 1 rfl <| L_ rfl rfl <| wg H 1 rfl rfl rfl rfl <| us 1 rfl <| L_ rfl rfl <| wg H 0 rfl rfl rfl rfl <| L_ rfl rfl ?_
 obtain ⟨y16, hy16, h⟩ := bindS h
 refine cl (.bool y16) [(encSl e_Api_Mod a0.Mods), (encSl e_Api_Mod a1.Mods), (.fn (.func 41) [] [])] rfl rfl rfl (fe rfl (fe rfl (fo rfl rfl))) (sv (s40_41 _ hy16)) <| us 1 rfl <| A_ ?_
 have h := oi h; subst h
 exact kh H
 rintro σ S e ⟨hk, H, rfl⟩
 replace h := hOy15
 refine E_ hk <| us 1 rfl <| A_ <| B_ <| us 1 rfl <| wg H 1 rfl rfl rfl rfl <| us 1 rfl <| wg H 0 rfl rfl rfl rfl <| w (.bool (a0.ID == a1.ID)) rfl rfl <| w (.bool (a0.ID == a1.ID)) rfl rfl ?_
 refine O_ 6 (SH H [(2, (.ptr i1 0)), (3, (.ptr i2 0)), (5, (.bool y15)), (38, (.bool ((a0.ID == a1.ID) && (a0.Op == a1.Op))))]) ?_ ?_
 revert H
 cases hc18 : (a0.ID == a1.ID)
 intro H
 refine us 6 rfl <| A_ ?_
 exact kf H
 intro H
 refine us 1 rfl <| L_ rfl rfl <| wg H 1 rfl rfl rfl rfl <| us 1 rfl <| L_ rfl rfl <| wg H 0 rfl rfl rfl rfl <| us 2 rfl <| A_ ?_
 exact kf H
 rintro σ S e ⟨hk, H, rfl⟩
 refine E_ hk <| w (.bool ((a0.ID == a1.ID) && (a0.Op == a1.Op))) rfl rfl ?_
 refine O_ 6 (SH H [(2, (.ptr i1 0)), (3, (.ptr i2 0)), (5, (.bool y15)), (45, (.bool (((a0.ID == a1.ID) && (a0.Op == a1.Op)) && (a0.Of == a1.Of))))]) ?_ ?_
 revert H
 cases hc19 : ((a0.ID == a1.ID) && (a0.Op == a1.Op))
 intro H
 refine us 6 rfl <| A_ ?_
 exact kf H
 intro H
 refine us 1 rfl <| L_ rfl rfl <| wg H 1 rfl rfl rfl rfl <| us 1 rfl <| L_ rfl rfl <| wg H 0 rfl rfl rfl rfl <| us 2 rfl <| A_ ?_
 exact kf H
 rintro σ S e ⟨hk, H, rfl⟩
 refine E_ hk <| w (.bool (((a0.ID == a1.ID) && (a0.Op == a1.Op)) && (a0.Of == a1.Of))) rfl rfl ?_
 refine O_ 6 (SH H [(2, (.ptr i1 0)), (3, (.ptr i2 0)), (5, (.bool y15)), (52, (.bool ((((a0.ID == a1.ID) && (a0.Op == a1.Op)) && (a0.Of == a1.Of)) && (a0.Version == a1.Version))))]) ?_ ?_
 revert H
 cases hc20 : (((a0.ID == a1.ID) && (a0.Op == a1.Op)) && (a0.Of == a1.Of))
 intro H
 refine us 6 rfl <| A_ ?_
 exact kf H
 intro H
 refine us 1 rfl <| L_ rfl rfl <| wg H 1 rfl rfl rfl rfl <| us 1 rfl <| L_ rfl rfl <| wg H 0 rfl rfl rfl rfl <| us 2 rfl <| A_ ?_
 exact kf H
 rintro σ S e ⟨hk, H, rfl⟩
 refine E_ hk <| w (.bool ((((a0.ID == a1.ID) && (a0.Op == a1.Op)) && (a0.Of == a1.Of)) && (a0.Version == a1.Version))) rfl rfl ?_
 refine O_ 6 (SH H [(2, (.ptr i1 0)), (3, (.ptr i2 0)), (5, (.bool y15)), (59, (.bool (((((a0.ID == a1.ID) && (a0.Op == a1.Op)) && (a0.Of == a1.Of)) && (a0.Version == a1.Version)) && (a0.Scope == a1.Scope))))]) ?_ ?_
 revert H
 cases hc21 : ((((a0.ID == a1.ID) && (a0.Op == a1.Op)) && (a0.Of == a1.Of)) && (a0.Version == a1.Version))
 intro H
 refine us 6 rfl <| A_ ?_
 exact kf H
 intro H
 refine us 1 rfl <| L_ rfl rfl <| wg H 1 rfl rfl rfl rfl <| us 1 rfl <| L_ rfl rfl <| wg H 0 rfl rfl rfl rfl <| us 2 rfl <| A_ ?_
 exact kf H
 rintro σ S e ⟨hk, H, rfl⟩
 refine E_ hk <| w (.bool (((((a0.ID == a1.ID) && (a0.Op == a1.Op)) && (a0.Of == a1.Of)) && (a0.Version == a1.Version)) && (a0.Scope == a1.Scope))) rfl rfl ?_
 refine O_ 6 (SH H [(2, (.ptr i1 0)), (3, (.ptr i2 0)), (5, (.bool y15)), (66, (.bool ((((((a0.ID == a1.ID) && (a0.Op == a1.Op)) && (a0.Of == a1.Of)) && (a0.Version == a1.Version)) && (a0.Scope == a1.Scope)) && (a0.Size == a1.Size))))]) ?_ ?_
 revert H
 cases hc22 : (((((a0.ID == a1.ID) && (a0.Op == a1.Op)) && (a0.Of == a1.Of)) && (a0.Version == a1.Version)) && (a0.Scope == a1.Scope))
 intro H
 refine us 6 rfl <| A_ ?_
 exact kf H
 intro H
 refine us 1 rfl <| L_ rfl rfl <| wg H 1 rfl rfl rfl rfl <| us 1 rfl <| L_ rfl rfl <| wg H 0 rfl rfl rfl rfl <| us 2 rfl <| A_ ?_
 exact kf H
 rintro σ S e ⟨hk, H, rfl⟩
 refine E_ hk <| w (.bool ((((((a0.ID == a1.ID) && (a0.Op == a1.Op)) && (a0.Of == a1.Of)) && (a0.Version == a1.Version)) && (a0.Scope == a1.Scope)) && (a0.Size == a1.Size))) rfl rfl ?_
 refine O_ 6 (SH H [(2, (.ptr i1 0)), (3, (.ptr i2 0)), (5, (.bool y15)), (73, (.bool (((((((a0.ID == a1.ID) && (a0.Op == a1.Op)) && (a0.Of == a1.Of)) && (a0.Version == a1.Version)) && (a0.Scope == a1.Scope)) && (a0.Size == a1.Size)) && (a0.Code == a1.Code))))]) ?_ ?_
 revert H
 cases hc23 : ((((((a0.ID == a1.ID) && (a0.Op == a1.Op)) && (a0.Of == a1.Of)) && (a0.Version == a1.Version)) && (a0.Scope == a1.Scope)) && (a0.Size == a1.Size))
 intro H
 refine us 6 rfl <| A_ ?_
 exact kf H
 intro H
 refine us 1 rfl <| L_ rfl rfl <| wg H 1 rfl rfl rfl rfl <| us 1 rfl <| L_ rfl rfl <| wg H 0 rfl rfl rfl rfl <| us 2 rfl <| A_ ?_
 exact kf H
 rintro σ S e ⟨hk, H, rfl⟩
 refine E_ hk <| us 1 rfl <| A_ <| B_ <| us 1 rfl <| wg H 1 rfl rfl rfl rfl <| us 1 rfl <| wg H 0 rfl rfl rfl rfl <| w (.bool (a0.DelOld == a1.DelOld)) rfl rfl <| w (.bool (a0.DelOld == a1.DelOld)) rfl rfl ?_
 refine O_ 6 (SH H [(2, (.ptr i1 0)), (3, (.ptr i2 0)), (5, (.bool y15)), (6, (.bool (((((((a0.ID == a1.ID) && (a0.Op == a1.Op)) && (a0.Of == a1.Of)) && (a0.Version == a1.Version)) && (a0.Scope == a1.Scope)) && (a0.Size == a1.Size)) && (a0.Code == a1.Code)))), (85, (.bool ((a0.DelOld == a1.DelOld) && (a0.HasSup == a1.HasSup))))]) ?_ ?_
 revert H
 cases hc24 : (a0.DelOld == a1.DelOld)
 intro H
 refine us 6 rfl <| A_ ?_
 exact kf H
 intro H
 refine us 1 rfl <| L_ rfl rfl <| wg H 1 rfl rfl rfl rfl <| us 1 rfl <| L_ rfl rfl <| wg H 0 rfl rfl rfl rfl <| us 2 rfl <| A_ ?_
 exact kf H
 rintro σ S e ⟨hk, H, rfl⟩
 refine E_ hk <| us 1 rfl <| A_ <| B_ <| us 2 rfl ?_
 refine O_ 2 (SH H [(2, (.ptr i1 0)), (3, (.ptr i2 0)), (7, (.bool ((a0.DelOld == a1.DelOld) && (a0.HasSup == a1.HasSup)))), (89, (.bool (y15 && (((((((a0.ID == a1.ID) && (a0.Op == a1.Op)) && (a0.Of == a1.Of)) && (a0.Version == a1.Version)) && (a0.Scope == a1.Scope)) && (a0.Size == a1.Size)) && (a0.Code == a1.Code)))))]) ?_ ?_
 revert H
 cases hc25 : y15
 intro H
 refine us 2 rfl <| A_ ?_
 exact kf H
 intro H
 refine us 2 rfl <| A_ ?_
 exact kf H
 rintro σ S e ⟨hk, H, rfl⟩
 refine E_ hk <| w (.bool (y15 && (((((((a0.ID == a1.ID) && (a0.Op == a1.Op)) && (a0.Of == a1.Of)) && (a0.Version == a1.Version)) && (a0.Scope == a1.Scope)) && (a0.Size == a1.Size)) && (a0.Code == a1.Code)))) rfl rfl ?_
 refine O_ 2 (SH H [(2, (.ptr i1 0)), (3, (.ptr i2 0)), (92, (.bool ((y15 && (((((((a0.ID == a1.ID) && (a0.Op == a1.Op)) && (a0.Of == a1.Of)) && (a0.Version == a1.Version)) && (a0.Scope == a1.Scope)) && (a0.Size == a1.Size)) && (a0.Code == a1.Code))) && ((a0.DelOld == a1.DelOld) && (a0.HasSup == a1.HasSup)))))]) ?_ ?_
 revert H
 cases hc26 : (y15 && (((((((a0.ID == a1.ID) && (a0.Op == a1.Op)) && (a0.Of == a1.Of)) && (a0.Version == a1.Version)) && (a0.Scope == a1.Scope)) && (a0.Size == a1.Size)) && (a0.Code == a1.Code)))
 intro H
 refine us 2 rfl <| A_ ?_
 exact kf H
 intro H
 refine us 2 rfl <| A_ ?_
 exact kf H
 rintro σ S e ⟨hk, H, rfl⟩
 refine E_ hk <| w (.bool ((y15 && (((((((a0.ID == a1.ID) && (a0.Op == a1.Op)) && (a0.Of == a1.Of)) && (a0.Version == a1.Version)) && (a0.Scope == a1.Scope)) && (a0.Size == a1.Size)) && (a0.Code == a1.Code))) && ((a0.DelOld == a1.DelOld) && (a0.HasSup == a1.HasSup)))) rfl rfl ?_
 refine O_ 6 (SH H [(2, (.ptr i1 0)), (3, (.ptr i2 0)), (99, (.bool (((y15 && (((((((a0.ID == a1.ID) && (a0.Op == a1.Op)) && (a0.Of == a1.Of)) && (a0.Version == a1.Version)) && (a0.Scope == a1.Scope)) && (a0.Size == a1.Size)) && (a0.Code == a1.Code))) && ((a0.DelOld == a1.DelOld) && (a0.HasSup == a1.HasSup))) && (a0.DN == a1.DN))))]) ?_ ?_
 revert H
 cases hc27 : ((y15 && (((((((a0.ID == a1.ID) && (a0.Op == a1.Op)) && (a0.Of == a1.Of)) && (a0.Version == a1.Version)) && (a0.Scope == a1.Scope)) && (a0.Size == a1.Size)) && (a0.Code == a1.Code))) && ((a0.DelOld == a1.DelOld) && (a0.HasSup == a1.HasSup)))
 intro H
 refine us 6 rfl <| A_ ?_
 exact kf H
 intro H
 refine us 1 rfl <| L_ rfl rfl <| wg H 1 rfl rfl rfl rfl <| us 1 rfl <| L_ rfl rfl <| wg H 0 rfl rfl rfl rfl <| us 2 rfl <| A_ ?_
 exact kf H
 rintro σ S e ⟨hk, H, rfl⟩
 refine E_ hk <| w (.bool (((y15 && (((((((a0.ID == a1.ID) && (a0.Op == a1.Op)) && (a0.Of == a1.Of)) && (a0.Version == a1.Version)) && (a0.Scope == a1.Scope)) && (a0.Size == a1.Size)) && (a0.Code == a1.Code))) && ((a0.DelOld == a1.DelOld) && (a0.HasSup == a1.HasSup))) && (a0.DN == a1.DN))) rfl rfl ?_
 refine O_ 6 (SH H [(2, (.ptr i1 0)), (3, (.ptr i2 0)), (106, (.bool ((((y15 && (((((((a0.ID == a1.ID) && (a0.Op == a1.Op)) && (a0.Of == a1.Of)) && (a0.Version == a1.Version)) && (a0.Scope == a1.Scope)) && (a0.Size == a1.Size)) && (a0.Code == a1.Code))) && ((a0.DelOld == a1.DelOld) && (a0.HasSup == a1.HasSup))) && (a0.DN == a1.DN)) && (a0.Pass == a1.Pass))))]) ?_ ?_
 revert H
 cases hc28 : (((y15 && (((((((a0.ID == a1.ID) && (a0.Op == a1.Op)) && (a0.Of == a1.Of)) && (a0.Version == a1.Version)) && (a0.Scope == a1.Scope)) && (a0.Size == a1.Size)) && (a0.Code == a1.Code))) && ((a0.DelOld == a1.DelOld) && (a0.HasSup == a1.HasSup))) && (a0.DN == a1.DN))
 intro H
 refine us 6 rfl <| A_ ?_
 exact kf H
 intro H
 refine us 1 rfl <| L_ rfl rfl <| wg H 1 rfl rfl rfl rfl <| us 1 rfl <| L_ rfl rfl <| wg H 0 rfl rfl rfl rfl <| us 2 rfl <| A_ ?_
 exact kf H
 rintro σ S e ⟨hk, H, rfl⟩
 refine E_ hk <| w (.bool ((((y15 && (((((((a0.ID == a1.ID) && (a0.Op == a1.Op)) && (a0.Of == a1.Of)) && (a0.Version == a1.Version)) && (a0.Scope == a1.Scope)) && (a0.Size == a1.Size)) && (a0.Code == a1.Code))) && ((a0.DelOld == a1.DelOld) && (a0.HasSup == a1.HasSup))) && (a0.DN == a1.DN)) && (a0.Pass == a1.Pass))) rfl rfl ?_
 refine O_ 6 (SH H [(2, (.ptr i1 0)), (3, (.ptr i2 0)), (113, (.bool (((((y15 && (((((((a0.ID == a1.ID) && (a0.Op == a1.Op)) && (a0.Of == a1.Of)) && (a0.Version == a1.Version)) && (a0.Scope == a1.Scope)) && (a0.Size == a1.Size)) && (a0.Code == a1.Code))) && ((a0.DelOld == a1.DelOld) && (a0.HasSup == a1.HasSup))) && (a0.DN == a1.DN)) && (a0.Pass == a1.Pass)) && (a0.RDN == a1.RDN))))]) ?_ ?_
 revert H
 cases hc29 : ((((y15 && (((((((a0.ID == a1.ID) && (a0.Op == a1.Op)) && (a0.Of == a1.Of)) && (a0.Version == a1.Version)) && (a0.Scope == a1.Scope)) && (a0.Size == a1.Size)) && (a0.Code == a1.Code))) && ((a0.DelOld == a1.DelOld) && (a0.HasSup == a1.HasSup))) && (a0.DN == a1.DN)) && (a0.Pass == a1.Pass))
 intro H
 refine us 6 rfl <| A_ ?_
 exact kf H
 intro H
 refine us 1 rfl <| L_ rfl rfl <| wg H 1 rfl rfl rfl rfl <| us 1 rfl <| L_ rfl rfl <| wg H 0 rfl rfl rfl rfl <| us 2 rfl <| A_ ?_
 exact kf H
 rintro σ S e ⟨hk, H, rfl⟩
 refine E_ hk <| w (.bool (((((y15 && (((((((a0.ID == a1.ID) && (a0.Op == a1.Op)) && (a0.Of == a1.Of)) && (a0.Version == a1.Version)) && (a0.Scope == a1.Scope)) && (a0.Size == a1.Size)) && (a0.Code == a1.Code))) && ((a0.DelOld == a1.DelOld) && (a0.HasSup == a1.HasSup))) && (a0.DN == a1.DN)) && (a0.Pass == a1.Pass)) && (a0.RDN == a1.RDN))) rfl rfl ?_
 refine O_ 6 (SH H [(2, (.ptr i1 0)), (3, (.ptr i2 0)), (120, (.bool ((((((y15 && (((((((a0.ID == a1.ID) && (a0.Op == a1.Op)) && (a0.Of == a1.Of)) && (a0.Version == a1.Version)) && (a0.Scope == a1.Scope)) && (a0.Size == a1.Size)) && (a0.Code == a1.Code))) && ((a0.DelOld == a1.DelOld) && (a0.HasSup == a1.HasSup))) && (a0.DN == a1.DN)) && (a0.Pass == a1.Pass)) && (a0.RDN == a1.RDN)) && (a0.Sup == a1.Sup))))]) ?_ ?_
 revert H
 cases hc30 : (((((y15 && (((((((a0.ID == a1.ID) && (a0.Op == a1.Op)) && (a0.Of == a1.Of)) && (a0.Version == a1.Version)) && (a0.Scope == a1.Scope)) && (a0.Size == a1.Size)) && (a0.Code == a1.Code))) && ((a0.DelOld == a1.DelOld) && (a0.HasSup == a1.HasSup))) && (a0.DN == a1.DN)) && (a0.Pass == a1.Pass)) && (a0.RDN == a1.RDN))
 intro H
 refine us 6 rfl <| A_ ?_
 exact kf H
 intro H
 refine us 1 rfl <| L_ rfl rfl <| wg H 1 rfl rfl rfl rfl <| us 1 rfl <| L_ rfl rfl <| wg H 0 rfl rfl rfl rfl <| us 2 rfl <| A_ ?_
 exact kf H
 rintro σ S e ⟨hk, H, rfl⟩
 refine E_ hk <| w (.bool ((((((y15 && (((((((a0.ID == a1.ID) && (a0.Op == a1.Op)) && (a0.Of == a1.Of)) && (a0.Version == a1.Version)) && (a0.Scope == a1.Scope)) && (a0.Size == a1.Size)) && (a0.Code == a1.Code))) && ((a0.DelOld == a1.DelOld) && (a0.HasSup == a1.HasSup))) && (a0.DN == a1.DN)) && (a0.Pass == a1.Pass)) && (a0.RDN == a1.RDN)) && (a0.Sup == a1.Sup))) rfl rfl ?_
 refine O_ 6 (SH H [(2, (.ptr i1 0)), (3, (.ptr i2 0)), (127, (.bool (((((((y15 && (((((((a0.ID == a1.ID) && (a0.Op == a1.Op)) && (a0.Of == a1.Of)) && (a0.Version == a1.Version)) && (a0.Scope == a1.Scope)) && (a0.Size == a1.Size)) && (a0.Code == a1.Code))) && ((a0.DelOld == a1.DelOld) && (a0.HasSup == a1.HasSup))) && (a0.DN == a1.DN)) && (a0.Pass == a1.Pass)) && (a0.RDN == a1.RDN)) && (a0.Sup == a1.Sup)) && (a0.Attr == a1.Attr))))]) ?_ ?_
 revert H
 cases hc31 : ((((((y15 && (((((((a0.ID == a1.ID) && (a0.Op == a1.Op)) && (a0.Of == a1.Of)) && (a0.Version == a1.Version)) && (a0.Scope == a1.Scope)) && (a0.Size == a1.Size)) && (a0.Code == a1.Code))) && ((a0.DelOld == a1.DelOld) && (a0.HasSup == a1.HasSup))) && (a0.DN == a1.DN)) && (a0.Pass == a1.Pass)) && (a0.RDN == a1.RDN)) && (a0.Sup == a1.Sup))
 intro H
 refine us 6 rfl <| A_ ?_
 exact kf H
 intro H
 refine us 1 rfl <| L_ rfl rfl <| wg H 1 rfl rfl rfl rfl <| us 1 rfl <| L_ rfl rfl <| wg H 0 rfl rfl rfl rfl <| us 2 rfl <| A_ ?_
 exact kf H
 rintro σ S e ⟨hk, H, rfl⟩
 refine E_ hk <| w (.bool (((((((y15 && (((((((a0.ID == a1.ID) && (a0.Op == a1.Op)) && (a0.Of == a1.Of)) && (a0.Version == a1.Version)) && (a0.Scope == a1.Scope)) && (a0.Size == a1.Size)) && (a0.Code == a1.Code))) && ((a0.DelOld == a1.DelOld) && (a0.HasSup == a1.HasSup))) && (a0.DN == a1.DN)) && (a0.Pass == a1.Pass)) && (a0.RDN == a1.RDN)) && (a0.Sup == a1.Sup)) && (a0.Attr == a1.Attr))) rfl rfl ?_
 refine O_ 6 (SH H [(2, (.ptr i1 0)), (3, (.ptr i2 0)), (134, (.bool ((((((((y15 && (((((((a0.ID == a1.ID) && (a0.Op == a1.Op)) && (a0.Of == a1.Of)) && (a0.Version == a1.Version)) && (a0.Scope == a1.Scope)) && (a0.Size == a1.Size)) && (a0.Code == a1.Code))) && ((a0.DelOld == a1.DelOld) && (a0.HasSup == a1.HasSup))) && (a0.DN == a1.DN)) && (a0.Pass == a1.Pass)) && (a0.RDN == a1.RDN)) && (a0.Sup == a1.Sup)) && (a0.Attr == a1.Attr)) && (a0.Value == a1.Value))))]) ?_ ?_
 revert H
 cases hc32 : (((((((y15 && (((((((a0.ID == a1.ID) && (a0.Op == a1.Op)) && (a0.Of == a1.Of)) && (a0.Version == a1.Version)) && (a0.Scope == a1.Scope)) && (a0.Size == a1.Size)) && (a0.Code == a1.Code))) && ((a0.DelOld == a1.DelOld) && (a0.HasSup == a1.HasSup))) && (a0.DN == a1.DN)) && (a0.Pass == a1.Pass)) && (a0.RDN == a1.RDN)) && (a0.Sup == a1.Sup)) && (a0.Attr == a1.Attr))
 intro H
 refine us 6 rfl <| A_ ?_
 exact kf H
 intro H
 refine us 1 rfl <| L_ rfl rfl <| wg H 1 rfl rfl rfl rfl <| us 1 rfl <| L_ rfl rfl <| wg H 0 rfl rfl rfl rfl <| us 2 rfl <| A_ ?_
 exact kf H
 rintro σ S e ⟨hk, H, rfl⟩
 refine E_ hk <| w (.bool ((((((((y15 && (((((((a0.ID == a1.ID) && (a0.Op == a1.Op)) && (a0.Of == a1.Of)) && (a0.Version == a1.Version)) && (a0.Scope == a1.Scope)) && (a0.Size == a1.Size)) && (a0.Code == a1.Code))) && ((a0.DelOld == a1.DelOld) && (a0.HasSup == a1.HasSup))) && (a0.DN == a1.DN)) && (a0.Pass == a1.Pass)) && (a0.RDN == a1.RDN)) && (a0.Sup == a1.Sup)) && (a0.Attr == a1.Attr)) && (a0.Value == a1.Value))) rfl rfl ?_
 refine O_ 6 (SH H [(141, (.bool (((((((((y15 && (((((((a0.ID == a1.ID) && (a0.Op == a1.Op)) && (a0.Of == a1.Of)) && (a0.Version == a1.Version)) && (a0.Scope == a1.Scope)) && (a0.Size == a1.Size)) && (a0.Code == a1.Code))) && ((a0.DelOld == a1.DelOld) && (a0.HasSup == a1.HasSup))) && (a0.DN == a1.DN)) && (a0.Pass == a1.Pass)) && (a0.RDN == a1.RDN)) && (a0.Sup == a1.Sup)) && (a0.Attr == a1.Attr)) && (a0.Value == a1.Value)) && (a0.Matched == a1.Matched))))]) ?_ ?_
 revert H
 cases hc33 : ((((((((y15 && (((((((a0.ID == a1.ID) && (a0.Op == a1.Op)) && (a0.Of == a1.Of)) && (a0.Version == a1.Version)) && (a0.Scope == a1.Scope)) && (a0.Size == a1.Size)) && (a0.Code == a1.Code))) && ((a0.DelOld == a1.DelOld) && (a0.HasSup == a1.HasSup))) && (a0.DN == a1.DN)) && (a0.Pass == a1.Pass)) && (a0.RDN == a1.RDN)) && (a0.Sup == a1.Sup)) && (a0.Attr == a1.Attr)) && (a0.Value == a1.Value))
 intro H
 refine us 6 rfl <| A_ ?_
 exact kf H
 intro H
 refine us 1 rfl <| L_ rfl rfl <| wg H 1 rfl rfl rfl rfl <| us 1 rfl <| L_ rfl rfl <| wg H 0 rfl rfl rfl rfl <| us 2 rfl <| A_ ?_
 exact kf H
 rintro σ S e ⟨hk, H, rfl⟩
 refine E_ hk <| us 1 rfl <| A_ <| R_ ?_
 have h := oi h; subst h
 exact kr (.bool (((((((((y15 && (((((((a0.ID == a1.ID) && (a0.Op == a1.Op)) && (a0.Of == a1.Of)) && (a0.Version == a1.Version)) && (a0.Scope == a1.Scope)) && (a0.Size == a1.Size)) && (a0.Code == a1.Code))) && ((a0.DelOld == a1.DelOld) && (a0.HasSup == a1.HasSup))) && (a0.DN == a1.DN)) && (a0.Pass == a1.Pass)) && (a0.RDN == a1.RDN)) && (a0.Sup == a1.Sup)) && (a0.Attr == a1.Attr)) && (a0.Value == a1.Value)) && (a0.Matched == a1.Matched))) rfl rfl rfl
def F17_L0 (rc0 : Api_Filter → Int → Option Bool) (k : Nat) (a28 : Int) (a30 : Api_Filter) : Nat → Int → Option (Out Bool Int)
 | 0, _ => none
 | n + 1, x29 =>
  if decide (x29 < (Sl.len a30.Subs)) then
  Option.bind (Sl.at? a30.Subs x29) fun y35 =>
  if decide ((Str.len y35) > 80) then
  some (Out.ret false)
  else
  F17_L0 rc0 k a28 a30 n (ad .i64 x29 1)
  else
  some (Out.brk x29)
def F17_L2 (rc0 : Api_Filter → Int → Option Bool) (k : Nat) (a65 : Int) (a67 : Api_Filter) : Nat → Int → Option (Out Bool Int)
 | 0, _ => none
 | n + 1, x66 =>
  if decide (x66 < (Sl.len a67.Kids)) then
  Option.bind (Sl.at? a67.Kids x66) fun y73 =>
  Option.bind (rc0 y73 (ad .i64 a65 1)) fun y74 =>
  if !y74 then
  some (Out.ret false)
  else
  F17_L2 rc0 k a65 a67 n (ad .i64 x66 1)
  else
  some (Out.brk x66)
def F17 : Nat → Api_Filter → Int → Option Bool
 | 0, _, _ => none
 | k + 1, a0, a1 =>
  if ((((decide (a1 > 12)) || (decide ((Sl.len a0.Kids) > 8))) || (decide ((Str.len a0.Attr) > 30))) || (decide ((Str.len a0.Value) > 80))) || (decide ((Sl.len a0.Subs) > 24)) then
  some false
  else
  Option.bind (F17_L0 (F17 k) k a1 a0 k 0) fun y39 =>
  match y39 with
  | .ret y39r => some y39r
  | .brk y39b =>
  Option.bind (F17_L2 (F17 k) k a1 a0 k 0) fun y78 =>
  match y78 with
  | .ret y78r => some y78r
  | .brk y78b =>
  some true
theorem l17_L0 {rc0 : Api_Filter → Int → Option Bool} (hrc0 : ∀ {a0 : Api_Filter} {a1 : Int} {r : Bool}, rc0 a0 a1 = some r → Q 17 [(.agg (c_Api_Filter a0)), (.int .i64 a1)] (.bool r)) {k : Nat} {a28 : Int} {a30 : Api_Filter} {S0 : List SObj} {R : List Nat} {K : KX} {i1 : Nat} (hi1 : S0.length ≤ i1)  {o : Out Bool Int}
  (hret : ∀ r : Bool, o = .ret r → EK [(4, (.bool r))] S0 R [] [] [] (K .ret))
  (hbrk : ∀ y : Int, o = .brk y → EK [(1, (.int .i64 a28)), (2, (.ptr i1 0))] S0 R [(i1, .cells (c_Api_Filter a30))] [] [] (K (.exit 0))) :
  ∀ {n : Nat} {x29 : Int}, F17_L0 rc0 k a28 a30 n x29 = some o → ∀ {σ : Nat → PV} {S : List SObj}, Known [(1, (.int .i64 a28)), (2, (.ptr i1 0)), (5, (.int .i64 x29))] σ → Hp S0 R S [(i1, .cells (c_Api_Filter a30))] [] [] → WC env ⟨63, S0.length⟩ (.loop pc17L0) σ S false K := by
 intro n
 induction n with
 | zero => intro _ h; cases h
 | succ n ih =>
  intro x29 h σ S  hk H
  rw [F17_L0] at h
  refine h_ <| b_ hk <| J_ <| B_ <| us 2 rfl <| wg H 0 rfl rfl rfl rfl <| wl rfl rfl rfl <| us 1 rfl <| A_ ?_
  rcases iteS h with ⟨hc38, h⟩ | ⟨hc38, h⟩
  refine G_ rfl hc38 <| N_ <| D_ <| J_ <| P_ <| B_ <| us 1 rfl <| wg H 0 rfl rfl rfl rfl <| us 1 rfl ?_
  obtain ⟨y35, hy35, h⟩ := bindS h
  refine w (.iptr [(.str y35)] 0) rfl (nz rfl (X_ rfl (W_ _ _) rfl rfl rfl hy35 rfl rfl)) <| us 3 rfl <| A_ ?_
  rcases iteS h with ⟨hc37, h⟩ | ⟨hc37, h⟩
  refine G_ rfl hc37 <| B_ <| us 1 rfl <| A_ <| R_ <| M_ <| I_ <| I_ ?_
  have h := oi h; subst h
  exact hret _ rfl kn (H.sub (.cons _ .slnil) .slnil .slnil)
  refine H_ rfl hc37 <| N_ <| Z_ <| D_ <| V_ <| us 3 rfl <| A_ <| D_ ?_
  exact ih h  kn (hs H)
  refine H_ rfl hc38 <| a_ <| F_ <| F_ ?_
  have h := oi h; subst h
  exact hbrk _ rfl  kn (hs H)
theorem l17_L2 {rc0 : Api_Filter → Int → Option Bool} (hrc0 : ∀ {a0 : Api_Filter} {a1 : Int} {r : Bool}, rc0 a0 a1 = some r → Q 17 [(.agg (c_Api_Filter a0)), (.int .i64 a1)] (.bool r)) {k : Nat} {a65 : Int} {a67 : Api_Filter} {S0 : List SObj} {R : List Nat} {K : KX} {i1 : Nat} (hi1 : S0.length ≤ i1)  {o : Out Bool Int}
  (hret : ∀ r : Bool, o = .ret r → EK [(4, (.bool r))] S0 R [] [] [] (K .ret))
  (hbrk : ∀ y : Int, o = .brk y → EK [] S0 R [(i1, .cells (c_Api_Filter a67))] [] [] (K (.exit 2))) :
  ∀ {n : Nat} {x66 : Int}, F17_L2 rc0 k a65 a67 n x66 = some o → ∀ {σ : Nat → PV} {S : List SObj}, Known [(1, (.int .i64 a65)), (2, (.ptr i1 0)), (6, (.int .i64 x66))] σ → Hp S0 R S [(i1, .cells (c_Api_Filter a67))] [] [] → WC env ⟨63, S0.length⟩ (.loop pc17L2) σ S false K := by
 intro n
 induction n with
 | zero => intro _ h; cases h
 | succ n ih =>
  intro x66 h σ S  hk H
  rw [F17_L2] at h
  refine h_ <| b_ hk <| J_ <| B_ <| us 2 rfl <| wg H 0 rfl rfl rfl rfl <| wl rfl rfl rfl <| us 1 rfl <| A_ ?_
  rcases iteS h with ⟨hc77, h⟩ | ⟨hc77, h⟩
  refine G_ rfl hc77 <| N_ <| D_ <| J_ <| P_ <| B_ <| us 1 rfl <| wg H 0 rfl rfl rfl rfl <| us 1 rfl ?_
  obtain ⟨y73, hy73, h⟩ := bindS h
  refine w (.iptr (c_Api_Filter y73) 0) rfl (nz rfl (X_ rfl (W_ _ _) rfl rfl rfl hy73 (e_Api_Filter_cells _) rfl)) <| us 3 rfl ?_
  obtain ⟨y74, hy74, h⟩ := bindS h
  refine cl (.bool y74) [(.agg (c_Api_Filter y73)), (.int .i64 (ad .i64 a65 1))] rfl rfl rfl rfl (sv (hrc0 hy74)) <| us 1 rfl <| A_ ?_
  rcases iteS h with ⟨hc76, h⟩ | ⟨hc76, h⟩
  refine G_ rfl hc76 <| B_ <| us 1 rfl <| A_ <| R_ <| M_ <| I_ <| I_ ?_
  have h := oi h; subst h
  exact hret _ rfl kn (H.sub (.cons _ .slnil) .slnil .slnil)
  refine H_ rfl hc76 <| N_ <| Z_ <| D_ <| V_ <| us 3 rfl <| A_ <| D_ ?_
  exact ih h  kn (hs H)
  refine H_ rfl hc77 <| a_ <| F_ <| F_ ?_
  have h := oi h; subst h
  exact hbrk _ rfl  q_ (hs H)
theorem s17 : ∀ k : Nat, ∀ {a0 : Api_Filter} {a1 : Int} {r : Bool}, F17 k a0 a1 = some r → Q 17 [(.agg (c_Api_Filter a0)), (.int .i64 a1)] (.bool r) := by
 intro k
 induction k with
 | zero => intro _ _ r h; cases h
 | succ k ih =>
  intro a0 a1 r h
  rw [F17] at h
  refine j_ (pf := fn17) rfl rfl (C_ rfl) (by simp [PV.clean, cleanL, clean_encSl clean_Api_Filter, clean_encSl clean_eS]) rfl rfl fun H => ?_
  refine B_ <| g_ rfl rfl rfl rfl rfl H ?_
  intro i1 S hi1 H
  refine us 1 rfl <| A_ <| J_ <| B_ <| us 1 rfl <| w (.bool (decide (a1 > 12))) rfl rfl <| w (.bool (decide (a1 > 12))) rfl rfl ?_
  refine O_ 5 (SH H [(1, (.int .i64 a1)), (2, (.ptr i1 0)), (14, (.bool ((decide (a1 > 12)) || (decide ((Sl.len a0.Kids) > 8)))))]) ?_ ?_
  revert H
  cases hc2 : (decide (a1 > 12))
  intro H
  refine us 1 rfl <| L_ rfl rfl <| wg H 0 rfl rfl rfl rfl <| L_ rfl rfl <| wl rfl rfl rfl <| us 2 rfl <| A_ ?_
  exact kf H
  intro H
  refine us 5 rfl <| A_ ?_
  exact kf H
  rintro σ S e ⟨hk, H, rfl⟩
  refine E_ hk <| w (.bool ((decide (a1 > 12)) || (decide ((Sl.len a0.Kids) > 8)))) rfl rfl ?_
  refine O_ 5 (SH H [(1, (.int .i64 a1)), (2, (.ptr i1 0)), (20, (.bool (((decide (a1 > 12)) || (decide ((Sl.len a0.Kids) > 8))) || (decide ((Str.len a0.Attr) > 30)))))]) ?_ ?_
  revert H
  cases hc3 : ((decide (a1 > 12)) || (decide ((Sl.len a0.Kids) > 8)))
  intro H
  refine us 1 rfl <| L_ rfl rfl <| wg H 0 rfl rfl rfl rfl <| us 3 rfl <| A_ ?_
  exact kf H
  intro H
  refine us 5 rfl <| A_ ?_
  exact kf H
  rintro σ S e ⟨hk, H, rfl⟩
  refine E_ hk <| w (.bool (((decide (a1 > 12)) || (decide ((Sl.len a0.Kids) > 8))) || (decide ((Str.len a0.Attr) > 30)))) rfl rfl ?_
  refine O_ 5 (SH H [(1, (.int .i64 a1)), (2, (.ptr i1 0)), (26, (.bool ((((decide (a1 > 12)) || (decide ((Sl.len a0.Kids) > 8))) || (decide ((Str.len a0.Attr) > 30))) || (decide ((Str.len a0.Value) > 80)))))]) ?_ ?_
  revert H
  cases hc4 : (((decide (a1 > 12)) || (decide ((Sl.len a0.Kids) > 8))) || (decide ((Str.len a0.Attr) > 30)))
  intro H
  refine us 1 rfl <| L_ rfl rfl <| wg H 0 rfl rfl rfl rfl <| us 3 rfl <| A_ ?_
  exact kf H
  intro H
  refine us 5 rfl <| A_ ?_
  exact kf H
  rintro σ S e ⟨hk, H, rfl⟩
  refine E_ hk <| w (.bool ((((decide (a1 > 12)) || (decide ((Sl.len a0.Kids) > 8))) || (decide ((Str.len a0.Attr) > 30))) || (decide ((Str.len a0.Value) > 80)))) rfl rfl ?_
  refine O_ 5 (SH H [(1, (.int .i64 a1)), (2, (.ptr i1 0)), (32, (.bool (((((decide (a1 > 12)) || (decide ((Sl.len a0.Kids) > 8))) || (decide ((Str.len a0.Attr) > 30))) || (decide ((Str.len a0.Value) > 80))) || (decide ((Sl.len a0.Subs) > 24)))))]) ?_ ?_
  revert H
  cases hc5 : ((((decide (a1 > 12)) || (decide ((Sl.len a0.Kids) > 8))) || (decide ((Str.len a0.Attr) > 30))) || (decide ((Str.len a0.Value) > 80)))
  intro H
  refine us 1 rfl <| L_ rfl rfl <| wg H 0 rfl rfl rfl rfl <| L_ rfl rfl <| wl rfl rfl rfl <| us 2 rfl <| A_ ?_
  exact kf H
  intro H
  refine us 5 rfl <| A_ ?_
  exact kf H
  rintro σ S e ⟨hk, H, rfl⟩
  refine E_ hk <| A_ ?_
  rcases iteS h with ⟨hc79, h⟩ | ⟨hc79, h⟩
  refine G_ rfl hc79 <| B_ <| us 1 rfl <| A_ <| R_ <| I_ ?_
  have h := oi h; subst h
  exact kr (.bool false) rfl rfl rfl
  refine H_ rfl hc79 <| N_ <| D_ <| J_ <| B_ <| us 1 rfl <| A_ ?_
  obtain ⟨y39, hy39, hOy39⟩ := bindS h
  refine P_ ?_
  refine l17_L0 ih hi1 ?_ ?_ hy39  kn (hs H)
  intro y39r he σ S  hk H; subst he; replace h := hOy39; dsimp only at h
  refine K_ hk <| M_ <| I_ ?_
  have h := oi h; subst h
  exact kr (.bool y39r) rfl rfl rfl
  intro y39b he σ S  hk H; subst he; replace h := hOy39; dsimp only at h
  refine K_ hk <| U_ <| D_ <| J_ <| B_ <| us 1 rfl <| A_ ?_
  obtain ⟨y78, hy78, hOy78⟩ := bindS h
  refine P_ ?_
  refine l17_L2 ih hi1 ?_ ?_ hy78  kn (hs H)
  intro y78r he σ S  hk H; subst he; replace h := hOy78; dsimp only at h
  refine K_ hk <| M_ <| I_ ?_
  have h := oi h; subst h
  exact kr (.bool y78r) rfl rfl rfl
  intro y78b he σ S  hk H; subst he; replace h := hOy78; dsimp only at h
  refine K_ hk <| U_ <| D_ <| B_ <| us 1 rfl <| A_ <| R_ ?_
  have h := oi h; subst h
  exact kr (.bool true) rfl rfl rfl
def F8_L0 (k : Nat) (a30 : Api_Msg) : Nat → Int → Option (Out Bool Int)
 | 0, _ => none
 | n + 1, x29 =>
  if decide (x29 < (Sl.len a30.Wants)) then
  Option.bind (Sl.at? a30.Wants x29) fun y35 =>
  if decide ((Str.len y35) > 500) then
  some (Out.ret false)
  else
  F8_L0 k a30 n (ad .i64 x29 1)
  else
  some (Out.brk x29)
def F8_L4 (k : Nat) (a340 : Int) (a342 : Api_Msg) : Nat → Int → Option (Out Bool Int)
 | 0, _ => none
 | n + 1, x341 =>
  Option.bind (Sl.at? a342.Mods a340) fun y343 =>
  if decide (x341 < (Sl.len y343.Values)) then
  Option.bind (Sl.at? a342.Mods a340) fun y349 =>
  Option.bind (Sl.at? y349.Values x341) fun y350 =>
  if decide ((Str.len y350) > 500) then
  some (Out.ret false)
  else
  F8_L4 k a340 a342 n (ad .i64 x341 1)
  else
  some (Out.brk x341)
def F8_L2 (k : Nat) (a250 : Api_Msg) : Nat → Int → Option (Out Bool Int)
 | 0, _ => none
 | n + 1, x249 =>
  if decide (x249 < (Sl.len a250.Mods)) then
  Option.bind (Sl.at? a250.Mods x249) fun y304 =>
  Option.bind (if decide ((Str.len y304.Attr) > 500) then
  some true
  else
  Option.bind (Sl.at? a250.Mods x249) fun y310 =>
  some (decide ((Sl.len y310.Values) > 14))) fun y309 =>
  if y309 then
  some (Out.ret false)
  else
  Option.bind (F8_L4 k x249 a250 k 0) fun y354 =>
  match y354 with
  | .ret y354r => some (Out.ret y354r)
  | .brk y354b =>
  F8_L2 k a250 n (ad .i64 x249 1)
  else
  some (Out.brk x249)
def F8 (k : Nat) (a0 : Api_Msg) : Option Bool :=
 if (((((((decide ((Str.len a0.DN) > 500)) || (decide ((Str.len a0.Pass) > 500))) || (decide ((Str.len a0.RDN) > 500))) || (decide ((Str.len a0.Sup) > 500))) || (decide ((Str.len a0.Attr) > 500))) || (decide ((Str.len a0.Value) > 500))) || (decide ((Str.len a0.Matched) > 500))) || (decide ((Sl.len a0.Wants) > 14)) then
 some false
 else
 Option.bind (F8_L0 k a0 k 0) fun y39 =>
 match y39 with
 | .ret y39r => some y39r
 | .brk y39b =>
 Option.bind (F8_L2 k a0 k 0) fun y357 =>
 match y357 with
 | .ret y357r => some y357r
 | .brk y357b =>
 Option.bind (if decide ((Sl.len a0.Mods) ≤ 14) then
 Option.bind (F17 k a0.Filter 0) fun y363 =>
 some y363
 else
 some false) fun y362 =>
 some y362
theorem l8_L0 {k : Nat} {a30 : Api_Msg} {S0 : List SObj} {R : List Nat} {K : KX} {i1 : Nat} (hi1 : S0.length ≤ i1)  {o : Out Bool Int}
  (hret : ∀ r : Bool, o = .ret r → EK [(2, (.bool r))] S0 R [] [] [] (K .ret))
  (hbrk : ∀ y : Int, o = .brk y → EK [(1, (.ptr i1 0))] S0 R [(i1, .cells (c_Api_Msg a30))] [] [] (K (.exit 0))) :
  ∀ {n : Nat} {x29 : Int}, F8_L0 k a30 n x29 = some o → ∀ {σ : Nat → PV} {S : List SObj}, Known [(1, (.ptr i1 0)), (3, (.int .i64 x29))] σ → Hp S0 R S [(i1, .cells (c_Api_Msg a30))] [] [] → WC env ⟨122, S0.length⟩ (.loop pc8L0) σ S false K := by
 intro n
 induction n with
 | zero => intro _ h; cases h
 | succ n ih =>
  intro x29 h σ S  hk H
  rw [F8_L0] at h
  refine h_ <| b_ hk <| J_ <| B_ <| us 2 rfl <| wg H 0 rfl rfl rfl rfl <| wl rfl rfl rfl <| us 1 rfl <| A_ ?_
  rcases iteS h with ⟨hc38, h⟩ | ⟨hc38, h⟩
  refine G_ rfl hc38 <| N_ <| D_ <| J_ <| P_ <| B_ <| us 1 rfl <| wg H 0 rfl rfl rfl rfl <| us 1 rfl ?_
  obtain ⟨y35, hy35, h⟩ := bindS h
  refine w (.iptr [(.str y35)] 0) rfl (nz rfl (X_ rfl (W_ _ _) rfl rfl rfl hy35 rfl rfl)) <| us 3 rfl <| A_ ?_
  rcases iteS h with ⟨hc37, h⟩ | ⟨hc37, h⟩
  refine G_ rfl hc37 <| B_ <| us 1 rfl <| A_ <| R_ <| M_ <| I_ <| I_ ?_
  have h := oi h; subst h
  exact hret _ rfl kn (H.sub (.cons _ .slnil) .slnil .slnil)
  refine H_ rfl hc37 <| N_ <| Z_ <| D_ <| V_ <| us 3 rfl <| A_ <| D_ ?_
  exact ih h  kn (hs H)
  refine H_ rfl hc38 <| a_ <| F_ <| F_ ?_
  have h := oi h; subst h
  exact hbrk _ rfl  kn (hs H)
theorem l8_L4 {k : Nat} {a340 : Int} {a342 : Api_Msg} {S0 : List SObj} {R : List Nat} {K : KX} {i1 : Nat} (hi1 : S0.length ≤ i1)  {o : Out Bool Int}
  (hret : ∀ r : Bool, o = .ret r → EK [(2, (.bool r))] S0 R [] [] [] (K .ret))
  (hbrk : ∀ y : Int, o = .brk y → EK [(1, (.ptr i1 0)), (4, (.int .i64 a340))] S0 R [(i1, .cells (c_Api_Msg a342))] [] [] (K (.exit 4))) :
  ∀ {n : Nat} {x341 : Int}, F8_L4 k a340 a342 n x341 = some o → ∀ {σ : Nat → PV} {S : List SObj}, Known [(1, (.ptr i1 0)), (4, (.int .i64 a340)), (5, (.int .i64 x341))] σ → Hp S0 R S [(i1, .cells (c_Api_Msg a342))] [] [] → WC env ⟨122, S0.length⟩ (.loop pc8L4) σ S false K := by
 intro n
 induction n with
 | zero => intro _ h; cases h
 | succ n ih =>
  intro x341 h σ S  hk H
  rw [F8_L4] at h
  refine h_ <| b_ hk <| J_ <| B_ <| us 2 rfl <| wg H 0 rfl rfl rfl rfl <| us 1 rfl ?_
  obtain ⟨y343, hy343, h⟩ := bindS h
  refine w (.iptr (c_Api_Mod y343) 0) rfl (nz rfl (X_ rfl (W_ _ _) rfl rfl rfl hy343 (e_Api_Mod_cells _) rfl)) <| us 2 rfl <| wl rfl rfl rfl <| us 1 rfl <| A_ ?_
  rcases iteS h with ⟨hc353, h⟩ | ⟨hc353, h⟩
  refine G_ rfl hc353 <| N_ <| D_ <| J_ <| P_ <| B_ <| us 1 rfl <| wg H 0 rfl rfl rfl rfl <| us 1 rfl ?_
  obtain ⟨y349, hy349, h⟩ := bindS h
  refine w (.iptr (c_Api_Mod y349) 0) rfl (nz rfl (X_ rfl (W_ _ _) rfl rfl rfl hy349 (e_Api_Mod_cells _) rfl)) <| us 3 rfl ?_
  obtain ⟨y350, hy350, h⟩ := bindS h
  refine w (.iptr [(.str y350)] 0) rfl (nz rfl (X_ rfl (W_ _ _) rfl rfl rfl hy350 rfl rfl)) <| us 3 rfl <| A_ ?_
  rcases iteS h with ⟨hc352, h⟩ | ⟨hc352, h⟩
  refine G_ rfl hc352 <| B_ <| us 1 rfl <| A_ <| R_ <| M_ <| I_ <| I_ ?_
  have h := oi h; subst h
  exact hret _ rfl kn (H.sub (.cons _ .slnil) .slnil .slnil)
  refine H_ rfl hc352 <| N_ <| Z_ <| D_ <| V_ <| us 3 rfl <| A_ <| D_ ?_
  exact ih h  kn (hs H)
  refine H_ rfl hc353 <| a_ <| F_ <| F_ ?_
  have h := oi h; subst h
  exact hbrk _ rfl  kn (hs H)
theorem l8_L2 {k : Nat} {a250 : Api_Msg} {S0 : List SObj} {R : List Nat} {K : KX} {i1 : Nat} (hi1 : S0.length ≤ i1)  {o : Out Bool Int}
  (hret : ∀ r : Bool, o = .ret r → EK [(2, (.bool r))] S0 R [] [] [] (K .ret))
  (hbrk : ∀ y : Int, o = .brk y → EK [(1, (.ptr i1 0))] S0 R [(i1, .cells (c_Api_Msg a250))] [] [] (K (.exit 2))) :
  ∀ {n : Nat} {x249 : Int}, F8_L2 k a250 n x249 = some o → ∀ {σ : Nat → PV} {S : List SObj}, Known [(1, (.ptr i1 0)), (4, (.int .i64 x249))] σ → Hp S0 R S [(i1, .cells (c_Api_Msg a250))] [] [] → WC env ⟨122, S0.length⟩ (.loop pc8L2) σ S false K := by
 intro n
 induction n with
 | zero => intro _ h; cases h
 | succ n ih =>
  intro x249 h σ S  hk H
  rw [F8_L2] at h
  refine h_ <| b_ hk <| J_ <| B_ <| us 2 rfl <| wg H 0 rfl rfl rfl rfl <| wl rfl rfl rfl <| us 1 rfl <| A_ ?_
  rcases iteS h with ⟨hc356, h⟩ | ⟨hc356, h⟩
  refine G_ rfl hc356 <| N_ <| D_ <| J_ <| P_ <| J_ <| B_ <| us 1 rfl <| wg H 0 rfl rfl rfl rfl <| us 1 rfl ?_
  obtain ⟨y304, hy304, h⟩ := bindS h
  refine w (.iptr (c_Api_Mod y304) 0) rfl (nz rfl (X_ rfl (W_ _ _) rfl rfl rfl hy304 (e_Api_Mod_cells _) rfl)) <| us 3 rfl <| w (.bool (decide ((Str.len y304.Attr) > 500))) rfl rfl <| w (.bool (decide ((Str.len y304.Attr) > 500))) rfl rfl ?_
  obtain ⟨y309, hy309, hOy309⟩ := bindS h
  refine O_ 9 (SJ [(1, (.ptr i1 0)), (4, (.int .i64 x249)), (90, (.bool y309))] S0 R [(i1, .cells (c_Api_Msg a250))] [] [] false) ?_ ?_
  replace h := hy309
  revert H
  cases hc311 : (decide ((Str.len y304.Attr) > 500))
  intro H
  replace h := iteF h hc311
  refine us 1 rfl <| L_ rfl rfl <| wg H 0 rfl rfl rfl rfl <| us 1 rfl <| L_ rfl rfl ?_
  obtain ⟨y310, hy310, h⟩ := bindS h
  refine w (.iptr (c_Api_Mod y310) 0) rfl (nz rfl (X_ rfl (W_ _ _) rfl rfl rfl hy310 (e_Api_Mod_cells _) rfl)) <| us 2 rfl <| L_ rfl rfl <| wl rfl rfl rfl <| us 2 rfl <| A_ ?_
  have h := oi h; subst h
  exact kh H
  intro H
  replace h := iteT h hc311
  refine us 9 rfl <| A_ ?_
  have h := oi h; subst h
  exact kh H
  rintro σ S e ⟨hk, H, rfl⟩
  replace h := hOy309
  refine E_ hk <| A_ ?_
  rcases iteS h with ⟨hc355, h⟩ | ⟨hc355, h⟩
  refine G_ rfl hc355 <| B_ <| us 1 rfl <| A_ <| R_ <| I_ <| M_ <| I_ <| I_ ?_
  have h := oi h; subst h
  exact hret _ rfl kn (H.sub (.cons _ .slnil) .slnil .slnil)
  refine H_ rfl hc355 <| N_ <| D_ <| B_ <| us 1 rfl <| A_ ?_
  obtain ⟨y354, hy354, hOy354⟩ := bindS h
  refine P_ ?_
  refine l8_L4 hi1 ?_ ?_ hy354  kn (hs H)
  intro y354r he σ S  hk H; subst he; replace h := hOy354; dsimp only at h
  refine K_ hk <| M_ <| M_ <| I_ <| I_ ?_
  have h := oi h; subst h
  exact hret _ rfl kn (hs H)
  intro y354b he σ S  hk H; subst he; replace h := hOy354; dsimp only at h
  refine K_ hk <| U_ <| Z_ <| D_ <| V_ <| us 3 rfl <| A_ <| D_ ?_
  exact ih h  kn (hs H)
  refine H_ rfl hc356 <| a_ <| F_ <| F_ ?_
  have h := oi h; subst h
  exact hbrk _ rfl  kn (hs H)
theorem s8 : ∀ k : Nat, ∀ {a0 : Api_Msg} {r : Bool}, F8 k a0 = some r → Q 8 [(.agg (c_Api_Msg a0))] (.bool r) := by
 intro k a0 r h
 unfold F8 at h
 refine j_ (pf := fn8) rfl rfl (C_ rfl) (by simp [PV.clean, cleanL, clean_encSl clean_Api_Filter, clean_encSl clean_Api_Mod, clean_encSl clean_eS]) rfl rfl fun H => ?_
 refine B_ <| g_ rfl rfl rfl rfl rfl H ?_
 intro i1 S hi1 H
 refine us 1 rfl <| A_ <| J_ <| B_ <| us 1 rfl <| wg H 0 rfl rfl rfl rfl <| us 1 rfl <| w (.bool (decide ((Str.len a0.DN) > 500))) rfl rfl <| w (.bool (decide ((Str.len a0.DN) > 500))) rfl rfl ?_
 refine O_ 5 (SH H [(1, (.ptr i1 0)), (15, (.bool ((decide ((Str.len a0.DN) > 500)) || (decide ((Str.len a0.Pass) > 500)))))]) ?_ ?_
 revert H
 cases hc2 : (decide ((Str.len a0.DN) > 500))
 intro H
 refine us 1 rfl <| L_ rfl rfl <| wg H 0 rfl rfl rfl rfl <| us 3 rfl <| A_ ?_
 exact kf H
 intro H
 refine us 5 rfl <| A_ ?_
 exact kf H
 rintro σ S e ⟨hk, H, rfl⟩
 refine E_ hk <| w (.bool ((decide ((Str.len a0.DN) > 500)) || (decide ((Str.len a0.Pass) > 500)))) rfl rfl ?_
 refine O_ 5 (SH H [(1, (.ptr i1 0)), (21, (.bool (((decide ((Str.len a0.DN) > 500)) || (decide ((Str.len a0.Pass) > 500))) || (decide ((Str.len a0.RDN) > 500)))))]) ?_ ?_
 revert H
 cases hc3 : ((decide ((Str.len a0.DN) > 500)) || (decide ((Str.len a0.Pass) > 500)))
 intro H
 refine us 1 rfl <| L_ rfl rfl <| wg H 0 rfl rfl rfl rfl <| us 3 rfl <| A_ ?_
 exact kf H
 intro H
 refine us 5 rfl <| A_ ?_
 exact kf H
 rintro σ S e ⟨hk, H, rfl⟩
 refine E_ hk <| w (.bool (((decide ((Str.len a0.DN) > 500)) || (decide ((Str.len a0.Pass) > 500))) || (decide ((Str.len a0.RDN) > 500)))) rfl rfl ?_
 refine O_ 5 (SH H [(1, (.ptr i1 0)), (27, (.bool ((((decide ((Str.len a0.DN) > 500)) || (decide ((Str.len a0.Pass) > 500))) || (decide ((Str.len a0.RDN) > 500))) || (decide ((Str.len a0.Sup) > 500)))))]) ?_ ?_
 revert H
 cases hc4 : (((decide ((Str.len a0.DN) > 500)) || (decide ((Str.len a0.Pass) > 500))) || (decide ((Str.len a0.RDN) > 500)))
 intro H
 refine us 1 rfl <| L_ rfl rfl <| wg H 0 rfl rfl rfl rfl <| us 3 rfl <| A_ ?_
 exact kf H
 intro H
 refine us 5 rfl <| A_ ?_
 exact kf H
 rintro σ S e ⟨hk, H, rfl⟩
 refine E_ hk <| w (.bool ((((decide ((Str.len a0.DN) > 500)) || (decide ((Str.len a0.Pass) > 500))) || (decide ((Str.len a0.RDN) > 500))) || (decide ((Str.len a0.Sup) > 500)))) rfl rfl ?_
 refine O_ 5 (SH H [(1, (.ptr i1 0)), (33, (.bool (((((decide ((Str.len a0.DN) > 500)) || (decide ((Str.len a0.Pass) > 500))) || (decide ((Str.len a0.RDN) > 500))) || (decide ((Str.len a0.Sup) > 500))) || (decide ((Str.len a0.Attr) > 500)))))]) ?_ ?_
 revert H
 cases hc5 : ((((decide ((Str.len a0.DN) > 500)) || (decide ((Str.len a0.Pass) > 500))) || (decide ((Str.len a0.RDN) > 500))) || (decide ((Str.len a0.Sup) > 500)))
 intro H
 refine us 1 rfl <| L_ rfl rfl <| wg H 0 rfl rfl rfl rfl <| us 3 rfl <| A_ ?_
 exact kf H
 intro H
 refine us 5 rfl <| A_ ?_
 exact kf H
 rintro σ S e ⟨hk, H, rfl⟩
 refine E_ hk <| w (.bool (((((decide ((Str.len a0.DN) > 500)) || (decide ((Str.len a0.Pass) > 500))) || (decide ((Str.len a0.RDN) > 500))) || (decide ((Str.len a0.Sup) > 500))) || (decide ((Str.len a0.Attr) > 500)))) rfl rfl ?_
 refine O_ 5 (SH H [(1, (.ptr i1 0)), (39, (.bool ((((((decide ((Str.len a0.DN) > 500)) || (decide ((Str.len a0.Pass) > 500))) || (decide ((Str.len a0.RDN) > 500))) || (decide ((Str.len a0.Sup) > 500))) || (decide ((Str.len a0.Attr) > 500))) || (decide ((Str.len a0.Value) > 500)))))]) ?_ ?_
 revert H
 cases hc6 : (((((decide ((Str.len a0.DN) > 500)) || (decide ((Str.len a0.Pass) > 500))) || (decide ((Str.len a0.RDN) > 500))) || (decide ((Str.len a0.Sup) > 500))) || (decide ((Str.len a0.Attr) > 500)))
 intro H
 refine us 1 rfl <| L_ rfl rfl <| wg H 0 rfl rfl rfl rfl <| us 3 rfl <| A_ ?_
 exact kf H
 intro H
 refine us 5 rfl <| A_ ?_
 exact kf H
 rintro σ S e ⟨hk, H, rfl⟩
 refine E_ hk <| w (.bool ((((((decide ((Str.len a0.DN) > 500)) || (decide ((Str.len a0.Pass) > 500))) || (decide ((Str.len a0.RDN) > 500))) || (decide ((Str.len a0.Sup) > 500))) || (decide ((Str.len a0.Attr) > 500))) || (decide ((Str.len a0.Value) > 500)))) rfl rfl ?_
 refine O_ 5 (SH H [(1, (.ptr i1 0)), (45, (.bool (((((((decide ((Str.len a0.DN) > 500)) || (decide ((Str.len a0.Pass) > 500))) || (decide ((Str.len a0.RDN) > 500))) || (decide ((Str.len a0.Sup) > 500))) || (decide ((Str.len a0.Attr) > 500))) || (decide ((Str.len a0.Value) > 500))) || (decide ((Str.len a0.Matched) > 500)))))]) ?_ ?_
 revert H
 cases hc7 : ((((((decide ((Str.len a0.DN) > 500)) || (decide ((Str.len a0.Pass) > 500))) || (decide ((Str.len a0.RDN) > 500))) || (decide ((Str.len a0.Sup) > 500))) || (decide ((Str.len a0.Attr) > 500))) || (decide ((Str.len a0.Value) > 500)))
 intro H
 refine us 1 rfl <| L_ rfl rfl <| wg H 0 rfl rfl rfl rfl <| us 3 rfl <| A_ ?_
 exact kf H
 intro H
 refine us 5 rfl <| A_ ?_
 exact kf H
 rintro σ S e ⟨hk, H, rfl⟩
 refine E_ hk <| w (.bool (((((((decide ((Str.len a0.DN) > 500)) || (decide ((Str.len a0.Pass) > 500))) || (decide ((Str.len a0.RDN) > 500))) || (decide ((Str.len a0.Sup) > 500))) || (decide ((Str.len a0.Attr) > 500))) || (decide ((Str.len a0.Value) > 500))) || (decide ((Str.len a0.Matched) > 500)))) rfl rfl ?_
 refine O_ 5 (SH H [(1, (.ptr i1 0)), (51, (.bool ((((((((decide ((Str.len a0.DN) > 500)) || (decide ((Str.len a0.Pass) > 500))) || (decide ((Str.len a0.RDN) > 500))) || (decide ((Str.len a0.Sup) > 500))) || (decide ((Str.len a0.Attr) > 500))) || (decide ((Str.len a0.Value) > 500))) || (decide ((Str.len a0.Matched) > 500))) || (decide ((Sl.len a0.Wants) > 14)))))]) ?_ ?_
 revert H
 cases hc8 : (((((((decide ((Str.len a0.DN) > 500)) || (decide ((Str.len a0.Pass) > 500))) || (decide ((Str.len a0.RDN) > 500))) || (decide ((Str.len a0.Sup) > 500))) || (decide ((Str.len a0.Attr) > 500))) || (decide ((Str.len a0.Value) > 500))) || (decide ((Str.len a0.Matched) > 500)))
 intro H
 refine us 1 rfl <| L_ rfl rfl <| wg H 0 rfl rfl rfl rfl <| L_ rfl rfl <| wl rfl rfl rfl <| us 2 rfl <| A_ ?_
 exact kf H
 intro H
 refine us 5 rfl <| A_ ?_
 exact kf H
 rintro σ S e ⟨hk, H, rfl⟩
 refine E_ hk <| A_ ?_
 rcases iteS h with ⟨hc365, h⟩ | ⟨hc365, h⟩
 refine G_ rfl hc365 <| B_ <| us 1 rfl <| A_ <| R_ <| I_ ?_
 have h := oi h; subst h
 exact kr (.bool false) rfl rfl rfl
 refine H_ rfl hc365 <| N_ <| D_ <| J_ <| B_ <| us 1 rfl <| A_ ?_
 obtain ⟨y39, hy39, hOy39⟩ := bindS h
 refine P_ ?_
 refine l8_L0 hi1 ?_ ?_ hy39  kn (hs H)
 intro y39r he σ S  hk H; subst he; replace h := hOy39; dsimp only at h
 refine K_ hk <| M_ <| I_ ?_
 have h := oi h; subst h
 exact kr (.bool y39r) rfl rfl rfl
 intro y39b he σ S  hk H; subst he; replace h := hOy39; dsimp only at h
 refine K_ hk <| U_ <| D_ <| J_ <| B_ <| us 1 rfl <| A_ ?_
 obtain ⟨y357, hy357, hOy357⟩ := bindS h
 refine P_ ?_
 refine l8_L2 hi1 ?_ ?_ hy357  kn (hs H)
 intro y357r he σ S  hk H; subst he; replace h := hOy357; dsimp only at h
 refine K_ hk <| M_ <| I_ ?_
 have h := oi h; subst h
 exact kr (.bool y357r) rfl rfl rfl
 intro y357b he σ S  hk H; subst he; replace h := hOy357; dsimp only at h
 refine K_ hk <| U_ <| D_ <| B_ <| us 1 rfl <| wg H 0 rfl rfl rfl rfl <| wl rfl rfl rfl <| w (.bool (decide ((Sl.len a0.Mods) ≤ 14))) rfl rfl <| w (.bool (decide ((Sl.len a0.Mods) ≤ 14))) rfl rfl ?_
 obtain ⟨y362, hy362, hOy362⟩ := bindS h
 refine O_ 4 (SJ [(121, (.bool y362))] [] [] [(i1, .cells (c_Api_Msg a0))] [] [] false) ?_ ?_
 replace h := hy362
 revert H
 cases hc364 : (decide ((Sl.len a0.Mods) ≤ 14))
 intro H
 replace h := iteF h hc364
 refine us 4 rfl <| A_ ?_
 have h := oi h; subst h
 exact kh H
 intro H
 replace h := iteT h hc364
 refine us 1 rfl <| L_ rfl rfl <| wg H 0 rfl rfl rfl rfl <| L_ rfl rfl ?_
 obtain ⟨y363, hy363, h⟩ := bindS h
 refine cl (.bool y363) [(.agg (c_Api_Filter a0.Filter)), (.int .i64 0)] rfl rfl rfl rfl (sv (s17 _ hy363)) <| us 1 rfl <| A_ ?_
 have h := oi h; subst h
 exact kh H
 rintro σ S e ⟨hk, H, rfl⟩
 replace h := hOy362
 refine E_ hk <| us 1 rfl <| A_ <| R_ ?_
 have h := oi h; subst h
 exact kr (.bool y362) rfl rfl rfl
def F30 (k : Nat) (a0 : Api_Msg) : Option Api_Msg :=
 Option.bind (if a0.Op == 1 then
 some (Api_Msg.mk a0.ID a0.Op 0 a0.DN a0.Version a0.Pass 0 0 (Api_Filter.mk 0 [] [] none none) none none [] false false [] [] [] 0 [])
 else
 if a0.Op == 3 then
 some (Api_Msg.mk a0.ID a0.Op 0 a0.DN 0 [] a0.Scope a0.Size a0.Filter a0.Wants none [] false false [] [] [] 0 [])
 else
 Option.bind (if a0.Op == 4 then
 some (a0.Op == 4)
 else
 Option.bind (if a0.Op == 5 then
 some (a0.Op == 5)
 else
 some (a0.Op == 10)) fun y12417 =>
 some y12417) fun y12414 =>
 if y12414 then
 some (Api_Msg.mk a0.ID a0.Op 0 a0.DN 0 [] 0 0 (Api_Filter.mk 0 [] [] none none) none a0.Mods [] false false [] [] [] 0 [])
 else
 if a0.Op == 6 then
 some (Api_Msg.mk a0.ID a0.Op 0 a0.DN 0 [] 0 0 (Api_Filter.mk 0 [] [] none none) none none [] false false [] [] [] 0 [])
 else
 if a0.Op == 7 then
 Option.bind (if a0.HasSup then
 some (Api_Msg.mk a0.ID a0.Op 0 a0.DN 0 [] 0 0 (Api_Filter.mk 0 [] [] none none) none none a0.RDN a0.DelOld a0.HasSup a0.Sup [] [] 0 [])
 else
 some (Api_Msg.mk a0.ID a0.Op 0 a0.DN 0 [] 0 0 (Api_Filter.mk 0 [] [] none none) none none a0.RDN a0.DelOld a0.HasSup [] [] [] 0 [])) fun y12428 =>
 some y12428
 else
 if a0.Op == 8 then
 some (Api_Msg.mk a0.ID a0.Op 0 a0.DN 0 [] 0 0 (Api_Filter.mk 0 [] [] none none) none none [] false false [] a0.Attr a0.Value 0 [])
 else
 if a0.Op == 9 then
 some (Api_Msg.mk a0.ID a0.Op a0.Of [] 0 [] 0 0 (Api_Filter.mk 0 [] [] none none) none none [] false false [] [] [] a0.Code a0.Matched)
 else
 some (Api_Msg.mk a0.ID a0.Op 0 [] 0 [] 0 0 (Api_Filter.mk 0 [] [] none none) none none [] false false [] [] [] 0 [])) fun y8296 =>
 some y8296
theorem s30 : ∀ k : Nat, ∀ {a0 : Api_Msg} {r : Api_Msg}, F30 k a0 = some r → Q 30 [(.agg (c_Api_Msg a0))] (.agg (c_Api_Msg r)) := by
 intro k a0 r h vs ha S
 unfold F30 at h
 refine l_ (pf := fn30) rfl rfl ha (C_ rfl) (by simp [PV.clean, cleanL, clean_encSl clean_Api_Filter, clean_encSl clean_Api_Mod, clean_encSl clean_eS]) (by simp [PV.clean, cleanL, clean_encSl clean_Api_Filter, clean_encSl clean_Api_Mod, clean_encSl clean_eS]) ?_
 refine WB.of (pf := fn30) rfl ?_
 have H := n_ []
 refine B_ <| g_ rfl rfl rfl rfl rfl H ?_
 intro i1 S hi1 H
 refine d_ (ti := ty28) rfl rfl rfl rfl H ?_
 intro i2 S hi2 H
 refine A_ <| B_ <| us 1 rfl <| wg H 1 rfl rfl rfl rfl <| us 1 rfl <| wg H 1 rfl rfl rfl rfl <| w (.agg [(.int .i64 a0.ID), (.int .i64 a0.Op), (.int .i64 0), (.str []), (.int .i64 0), (.str []), (.int .i64 0), (.int .i64 0), (.int .i64 0), (.str []), (.str []), .nils, .nils, .nils, .nils, (.str []), (.bool false), (.bool false), (.str []), (.str []), (.str []), (.int .i64 0), (.str [])]) rfl (nz rfl (stp_build (ti := ty28) rfl rfl rfl rfl rfl (fill_cons rfl rfl rfl rfl (C_ rfl) rfl (fill_cons rfl rfl rfl rfl (C_ rfl) rfl rfl)))) <| d_ (ti := ty28) rfl rfl rfl rfl H ?_
 intro i3 S hi3 H
 refine wos 0 H hi3 rfl rfl rfl rfl rfl rfl rfl rfl rfl rfl ?_
 intro S H
 replace H : Hp [] [] _ [(i3, .cells [(.int .i64 a0.ID), (.int .i64 a0.Op), (.int .i64 0), (.str []), (.int .i64 0), (.str []), (.int .i64 0), (.int .i64 0), (.int .i64 0), (.str []), (.str []), .nils, .nils, .nils, .nils, (.str []), (.bool false), (.bool false), (.str []), (.str []), (.str []), (.int .i64 0), (.str [])]), (i2, .cells z0_), (i1, .cells (c_Api_Msg a0))] [] [] := H
 refine A_ <| J_ <| B_ <| us 1 rfl <| wg H 2 rfl rfl rfl rfl <| A_ ?_
 obtain ⟨y8296, hy8296, hOy8296⟩ := bindS h
 refine f_ (fun σ' S' e' => ∃ v8297, ∃ v8298, ∃ v8299, ∃ v8300, IsSl eS y8296.Filter.Subs v8297 ∧ IsSl e_Api_Filter y8296.Filter.Kids v8298 ∧ IsSl eS y8296.Wants v8299 ∧ IsSl e_Api_Mod y8296.Mods v8300 ∧ Known ([(2, (.ptr i2 0)), (3, (.ptr i3 0))]) σ' ∧ Hp [] [] S' [(i3, .cells [(.int .i64 y8296.ID), (.int .i64 y8296.Op), (.int .i64 y8296.Of), (.str y8296.DN), (.int .i64 y8296.Version), (.str y8296.Pass), (.int .i64 y8296.Scope), (.int .i64 y8296.Size), (.int .i64 y8296.Filter.Kind), (.str y8296.Filter.Attr), (.str y8296.Filter.Value), v8297, v8298, v8299, v8300, (.str y8296.RDN), (.bool y8296.DelOld), (.bool y8296.HasSup), (.str y8296.Sup), (.str y8296.Attr), (.str y8296.Value), (.int .i64 y8296.Code), (.str y8296.Matched)]), (i2, .cells z0_), (i1, .cells (c_Api_Msg a0))] [] [] ∧ e' = false) ?_ ?_
 replace h := hy8296
 refine P_ <| J_ <| P_ <| J_ <| P_ <| J_ <| P_ <| J_ <| P_ <| J_ <| P_ <| J_ <| P_ <| J_ <| P_ <| J_ <| J_ <| B_ <| us 2 rfl <| A_ ?_
 rcases iteS h with ⟨hc12446, h⟩ | ⟨hc12446, h⟩
 refine G_ rfl hc12446 <| a_ <| F_ <| F_ <| U_ <| D_ <| J_ <| WC.drawC <| wk (.ptr i1 4) rfl rfl rfl rfl <| wkl H 2 rfl rfl rfl rfl <| wk (.ptr i1 3) rfl rfl rfl rfl <| wkl H 2 rfl rfl rfl rfl <| wk (.ptr i1 5) rfl rfl rfl rfl <| wkl H 2 rfl rfl rfl rfl <| wk (.ptr i3 4) rfl rfl rfl rfl ?_
 have Hh12397 := H
 refine wks 0 H hi3 rfl rfl rfl rfl rfl rfl rfl rfl rfl rfl ?_
 intro S H
 refine ⟨(pend_cons (ld (H.get 2 rfl) rfl) (pend_cons (ld (H.get 2 rfl) rfl) (pend_cons (ld (H.get 2 rfl) rfl) pend_nil))), ?_⟩
 refine wk (.ptr i3 3) rfl rfl rfl rfl ?_
 have Hh12398 := H
 refine wks 0 H hi3 rfl rfl rfl rfl rfl rfl rfl rfl rfl rfl ?_
 intro S H
 refine ⟨(pend_cons (ld (H.get 2 rfl) rfl) (pend_cons (ld (H.get 2 rfl) rfl) (pend_cons (ld (H.get 2 rfl) rfl) pend_nil))), ?_⟩
 refine WK.nil <| us 1 rfl <| wos 0 H hi3 rfl rfl rfl rfl rfl rfl rfl rfl rfl rfl ?_
 intro S H
 replace H : Hp [] [] _ [(i3, .cells [(.int .i64 a0.ID), (.int .i64 a0.Op), (.int .i64 0), (.str a0.DN), (.int .i64 a0.Version), (.str a0.Pass), (.int .i64 0), (.int .i64 0), (.int .i64 0), (.str []), (.str []), .nils, .nils, .nils, .nils, (.str []), (.bool false), (.bool false), (.str []), (.str []), (.str []), (.int .i64 0), (.str [])]), (i2, .cells z0_), (i1, .cells (c_Api_Msg a0))] [] [] := H
 refine A_ <| D_ <| a_ <| S_ rfl <| F_ <| S_ rfl <| F_ <| S_ rfl <| F_ <| S_ rfl <| F_ <| S_ rfl <| F_ <| S_ rfl <| F_ <| U_ <| D_ ?_
 have h := oi h; subst h
 exact ⟨.nils, .nils, .nils, .nils, (isSl_nil _), (isSl_nil _), (isSl_nil _), (isSl_nil _), kn, (hs H), rfl⟩
 refine H_ rfl hc12446 <| N_ <| D_ <| J_ <| B_ <| us 2 rfl <| A_ ?_
 rcases iteS h with ⟨hc12445, h⟩ | ⟨hc12445, h⟩
 refine G_ rfl hc12445 <| a_ <| F_ <| F_ <| S_ rfl <| F_ <| U_ <| D_ <| J_ <| WC.drawC <| wk (.ptr i1 3) rfl rfl rfl rfl <| wkl H 2 rfl rfl rfl rfl <| wk (.ptr i1 6) rfl rfl rfl rfl <| wkl H 2 rfl rfl rfl rfl <| wk (.ptr i1 7) rfl rfl rfl rfl <| wkl H 2 rfl rfl rfl rfl <| wk (.ptr i1 8) rfl rfl rfl rfl <| wkl H 2 rfl rfl rfl rfl <| wk (.ptr i1 13) rfl rfl rfl rfl <| wkl H 2 rfl rfl rfl rfl <| wk (.ptr i3 3) rfl rfl rfl rfl ?_
 have Hh12400 := H
 refine wks 0 H hi3 rfl rfl rfl rfl rfl rfl rfl rfl rfl rfl ?_
 intro S H
 refine ⟨(pend_cons (ld (H.get 2 rfl) rfl) (pend_cons (ld (H.get 2 rfl) rfl) (pend_cons (ld (H.get 2 rfl) rfl) (pend_cons (ld (H.get 2 rfl) rfl) (pend_cons (ld (H.get 2 rfl) rfl) pend_nil))))), ?_⟩
 refine wk (.ptr i3 6) rfl rfl rfl rfl ?_
 have Hh12401 := H
 refine wks 0 H hi3 rfl rfl rfl rfl rfl rfl rfl rfl rfl rfl ?_
 intro S H
 refine ⟨(pend_cons (ld (H.get 2 rfl) rfl) (pend_cons (ld (H.get 2 rfl) rfl) (pend_cons (ld (H.get 2 rfl) rfl) (pend_cons (ld (H.get 2 rfl) rfl) (pend_cons (ld (H.get 2 rfl) rfl) pend_nil))))), ?_⟩
 refine wk (.ptr i3 7) rfl rfl rfl rfl ?_
 have Hh12402 := H
 refine wks 0 H hi3 rfl rfl rfl rfl rfl rfl rfl rfl rfl rfl ?_
 intro S H
 refine ⟨(pend_cons (ld (H.get 2 rfl) rfl) (pend_cons (ld (H.get 2 rfl) rfl) (pend_cons (ld (H.get 2 rfl) rfl) (pend_cons (ld (H.get 2 rfl) rfl) (pend_cons (ld (H.get 2 rfl) rfl) pend_nil))))), ?_⟩
 refine wk (.ptr i3 8) rfl rfl rfl rfl ?_
 have Hh12403 := H
 refine wks 0 H hi3 rfl rfl rfl rfl rfl rfl rfl rfl rfl rfl ?_
 intro S H
 refine ⟨(pend_cons (ld (H.get 2 rfl) rfl) (pend_cons (ld (H.get 2 rfl) rfl) (pend_cons (ld (H.get 2 rfl) rfl) (pend_cons (ld (H.get 2 rfl) rfl) (pend_cons (ld (H.get 2 rfl) rfl) pend_nil))))), ?_⟩
 refine WK.nil <| us 1 rfl <| WO.store 0 rfl (fe rfl rfl) H rfl rfl rfl rfl (W_ _ _).one.1 (W_ _ _).one.2 rfl (C_ rfl) rfl (own_e hi3) ?_
 intro S H
 replace H : Hp [] [] _ [(i3, .cells [(.int .i64 a0.ID), (.int .i64 a0.Op), (.int .i64 0), (.str a0.DN), (.int .i64 0), (.str []), (.int .i64 a0.Scope), (.int .i64 a0.Size), (.int .i64 a0.Filter.Kind), (.str a0.Filter.Attr), (.str a0.Filter.Value), (encSl eS a0.Filter.Subs), (encSl e_Api_Filter a0.Filter.Kids), (encSl eS a0.Wants), .nils, (.str []), (.bool false), (.bool false), (.str []), (.str []), (.str []), (.int .i64 0), (.str [])]), (i2, .cells z0_), (i1, .cells (c_Api_Msg a0))] [] [] := H
 refine A_ <| D_ <| a_ <| S_ rfl <| F_ <| S_ rfl <| F_ <| S_ rfl <| F_ <| S_ rfl <| F_ <| S_ rfl <| F_ <| U_ <| D_ ?_
 have h := oi h; subst h
 exact ⟨(encSl eS a0.Filter.Subs), (encSl e_Api_Filter a0.Filter.Kids), (encSl eS a0.Wants), .nils, (W_ _ _), (W_ _ _), (W_ _ _), (isSl_nil _), kn, (hs H), rfl⟩
 refine H_ rfl hc12445 <| N_ <| D_ <| J_ <| J_ <| B_ <| us 2 rfl <| A_ ?_
 obtain ⟨y12414, hy12414, hOy12414⟩ := bindS h
 refine f_ (SJ [(1, (.ptr i1 0)), (2, (.ptr i2 0)), (3, (.ptr i3 0)), (10, (.int .i64 a0.Op)), (15, (.bool y12414))] [] [] [(i3, .cells [(.int .i64 a0.ID), (.int .i64 a0.Op), (.int .i64 0), (.str []), (.int .i64 0), (.str []), (.int .i64 0), (.int .i64 0), (.int .i64 0), (.str []), (.str []), .nils, .nils, .nils, .nils, (.str []), (.bool false), (.bool false), (.str []), (.str []), (.str []), (.int .i64 0), (.str [])]), (i2, .cells z0_), (i1, .cells (c_Api_Msg a0))] [] [] false) ?_ ?_
 replace h := hy12414
 rcases iteS h with ⟨hc12419, h⟩ | ⟨hc12419, h⟩
 refine G_ rfl hc12419 <| N_ <| D_ ?_
 have h := oi h; subst h
 exact kh H
 refine H_ rfl hc12419 <| B_ <| us 2 rfl <| A_ ?_
 obtain ⟨y12417, hy12417, hOy12417⟩ := bindS h
 refine f_ (SJ [(1, (.ptr i1 0)), (2, (.ptr i2 0)), (3, (.ptr i3 0)), (10, (.int .i64 a0.Op)), (15, (.bool y12417))] [] [] [(i3, .cells [(.int .i64 a0.ID), (.int .i64 a0.Op), (.int .i64 0), (.str []), (.int .i64 0), (.str []), (.int .i64 0), (.int .i64 0), (.int .i64 0), (.str []), (.str []), .nils, .nils, .nils, .nils, (.str []), (.bool false), (.bool false), (.str []), (.str []), (.str []), (.int .i64 0), (.str [])]), (i2, .cells z0_), (i1, .cells (c_Api_Msg a0))] [] [] false) ?_ ?_
 replace h := hy12417
 rcases iteS h with ⟨hc12418, h⟩ | ⟨hc12418, h⟩
 refine G_ rfl hc12418 <| N_ <| D_ ?_
 have h := oi h; subst h
 exact kh H
 refine H_ rfl hc12418 <| V_ <| us 2 rfl <| A_ <| D_ ?_
 have h := oi h; subst h
 exact kh H
 rintro σ S e ⟨hk, H, rfl⟩
 replace h := hOy12417
 refine K_ hk <| D_ ?_
 have h := oi h; subst h
 exact kh H
 rintro σ S e ⟨hk, H, rfl⟩
 replace h := hOy12414
 refine K_ hk <| D_ ?_
 rcases iteS h with ⟨hc12444, h⟩ | ⟨hc12444, h⟩
 refine G_ rfl hc12444 <| a_ <| F_ <| F_ <| S_ rfl <| F_ <| S_ rfl <| F_ <| U_ <| D_ <| V_ <| us 1 rfl <| wg H 2 rfl rfl rfl rfl <| us 1 rfl <| WO.store 0 rfl (fe rfl rfl) H rfl rfl rfl rfl (W_ _ _).one.1 (W_ _ _).one.2 rfl (C_ rfl) rfl (own_e hi3) ?_
 intro S H
 refine A_ <| Z_ <| D_ <| B_ <| us 1 rfl <| wg H 2 rfl rfl rfl rfl <| us 1 rfl <| wos 0 H hi3 rfl rfl rfl rfl rfl rfl rfl rfl rfl rfl ?_
 intro S H
 replace H : Hp [] [] _ [(i3, .cells [(.int .i64 a0.ID), (.int .i64 a0.Op), (.int .i64 0), (.str a0.DN), (.int .i64 0), (.str []), (.int .i64 0), (.int .i64 0), (.int .i64 0), (.str []), (.str []), .nils, .nils, .nils, (encSl e_Api_Mod a0.Mods), (.str []), (.bool false), (.bool false), (.str []), (.str []), (.str []), (.int .i64 0), (.str [])]), (i2, .cells z0_), (i1, .cells (c_Api_Msg a0))] [] [] := H
 refine A_ <| a_ <| S_ rfl <| F_ <| S_ rfl <| F_ <| S_ rfl <| F_ <| U_ <| D_ ?_
 have h := oi h; subst h
 exact ⟨.nils, .nils, .nils, (encSl e_Api_Mod a0.Mods), (isSl_nil _), (isSl_nil _), (isSl_nil _), (W_ _ _), kn, (hs H), rfl⟩
 refine H_ rfl hc12444 <| N_ <| D_ <| J_ <| B_ <| us 2 rfl <| A_ ?_
 rcases iteS h with ⟨hc12443, h⟩ | ⟨hc12443, h⟩
 refine G_ rfl hc12443 <| a_ <| F_ <| F_ <| S_ rfl <| F_ <| S_ rfl <| F_ <| S_ rfl <| F_ <| U_ <| D_ <| B_ <| us 1 rfl <| wg H 2 rfl rfl rfl rfl <| us 1 rfl <| wos 0 H hi3 rfl rfl rfl rfl rfl rfl rfl rfl rfl rfl ?_
 intro S H
 replace H : Hp [] [] _ [(i3, .cells [(.int .i64 a0.ID), (.int .i64 a0.Op), (.int .i64 0), (.str a0.DN), (.int .i64 0), (.str []), (.int .i64 0), (.int .i64 0), (.int .i64 0), (.str []), (.str []), .nils, .nils, .nils, .nils, (.str []), (.bool false), (.bool false), (.str []), (.str []), (.str []), (.int .i64 0), (.str [])]), (i2, .cells z0_), (i1, .cells (c_Api_Msg a0))] [] [] := H
 refine A_ <| a_ <| S_ rfl <| F_ <| S_ rfl <| F_ <| S_ rfl <| F_ <| U_ <| D_ ?_
 have h := oi h; subst h
 exact ⟨.nils, .nils, .nils, .nils, (isSl_nil _), (isSl_nil _), (isSl_nil _), (isSl_nil _), kn, (hs H), rfl⟩
 refine H_ rfl hc12443 <| N_ <| D_ <| J_ <| B_ <| us 2 rfl <| A_ ?_
 rcases iteS h with ⟨hc12442, h⟩ | ⟨hc12442, h⟩
 refine G_ rfl hc12442 <| a_ <| F_ <| F_ <| S_ rfl <| F_ <| S_ rfl <| F_ <| S_ rfl <| F_ <| S_ rfl <| F_ <| U_ <| D_ <| J_ <| J_ <| WC.drawC <| wk (.ptr i1 3) rfl rfl rfl rfl <| wkl H 2 rfl rfl rfl rfl <| wk (.ptr i1 15) rfl rfl rfl rfl <| wkl H 2 rfl rfl rfl rfl <| wk (.ptr i1 16) rfl rfl rfl rfl <| wkl H 2 rfl rfl rfl rfl <| wk (.ptr i1 17) rfl rfl rfl rfl <| wkl H 2 rfl rfl rfl rfl <| wk (.ptr i3 3) rfl rfl rfl rfl ?_
 have Hh12423 := H
 refine wks 0 H hi3 rfl rfl rfl rfl rfl rfl rfl rfl rfl rfl ?_
 intro S H
 refine ⟨(pend_cons (ld (H.get 2 rfl) rfl) (pend_cons (ld (H.get 2 rfl) rfl) (pend_cons (ld (H.get 2 rfl) rfl) (pend_cons (ld (H.get 2 rfl) rfl) pend_nil)))), ?_⟩
 refine wk (.ptr i3 15) rfl rfl rfl rfl ?_
 have Hh12424 := H
 refine wks 0 H hi3 rfl rfl rfl rfl rfl rfl rfl rfl rfl rfl ?_
 intro S H
 refine ⟨(pend_cons (ld (H.get 2 rfl) rfl) (pend_cons (ld (H.get 2 rfl) rfl) (pend_cons (ld (H.get 2 rfl) rfl) (pend_cons (ld (H.get 2 rfl) rfl) pend_nil)))), ?_⟩
 refine wk (.ptr i3 16) rfl rfl rfl rfl ?_
 have Hh12425 := H
 refine wks 0 H hi3 rfl rfl rfl rfl rfl rfl rfl rfl rfl rfl ?_
 intro S H
 refine ⟨(pend_cons (ld (H.get 2 rfl) rfl) (pend_cons (ld (H.get 2 rfl) rfl) (pend_cons (ld (H.get 2 rfl) rfl) (pend_cons (ld (H.get 2 rfl) rfl) pend_nil)))), ?_⟩
 refine WK.nil <| us 1 rfl <| wos 0 H hi3 rfl rfl rfl rfl rfl rfl rfl rfl rfl rfl ?_
 intro S H
 replace H : Hp [] [] _ [(i3, .cells [(.int .i64 a0.ID), (.int .i64 a0.Op), (.int .i64 0), (.str a0.DN), (.int .i64 0), (.str []), (.int .i64 0), (.int .i64 0), (.int .i64 0), (.str []), (.str []), .nils, .nils, .nils, .nils, (.str a0.RDN), (.bool a0.DelOld), (.bool a0.HasSup), (.str []), (.str []), (.str []), (.int .i64 0), (.str [])]), (i2, .cells z0_), (i1, .cells (c_Api_Msg a0))] [] [] := H
 refine A_ <| D_ <| B_ <| us 1 rfl <| wg H 2 rfl rfl rfl rfl <| A_ ?_
 obtain ⟨y12428, hy12428, hOy12428⟩ := bindS h
 refine f_ (fun σ' S' e' => ∃ v12429, ∃ v12430, ∃ v12431, ∃ v12432, IsSl eS y12428.Filter.Subs v12429 ∧ IsSl e_Api_Filter y12428.Filter.Kids v12430 ∧ IsSl eS y12428.Wants v12431 ∧ IsSl e_Api_Mod y12428.Mods v12432 ∧ Known ([(2, (.ptr i2 0)), (3, (.ptr i3 0))]) σ' ∧ Hp [] [] S' [(i3, .cells [(.int .i64 y12428.ID), (.int .i64 y12428.Op), (.int .i64 y12428.Of), (.str y12428.DN), (.int .i64 y12428.Version), (.str y12428.Pass), (.int .i64 y12428.Scope), (.int .i64 y12428.Size), (.int .i64 y12428.Filter.Kind), (.str y12428.Filter.Attr), (.str y12428.Filter.Value), v12429, v12430, v12431, v12432, (.str y12428.RDN), (.bool y12428.DelOld), (.bool y12428.HasSup), (.str y12428.Sup), (.str y12428.Attr), (.str y12428.Value), (.int .i64 y12428.Code), (.str y12428.Matched)]), (i2, .cells z0_), (i1, .cells (c_Api_Msg a0))] [] [] ∧ e' = false) ?_ ?_
 replace h := hy12428
 rcases iteS h with ⟨hc12433, h⟩ | ⟨hc12433, h⟩
 refine G_ rfl hc12433 <| V_ <| us 1 rfl <| wg H 2 rfl rfl rfl rfl <| us 1 rfl <| wos 0 H hi3 rfl rfl rfl rfl rfl rfl rfl rfl rfl rfl ?_
 intro S H
 replace H : Hp [] [] _ [(i3, .cells [(.int .i64 a0.ID), (.int .i64 a0.Op), (.int .i64 0), (.str a0.DN), (.int .i64 0), (.str []), (.int .i64 0), (.int .i64 0), (.int .i64 0), (.str []), (.str []), .nils, .nils, .nils, .nils, (.str a0.RDN), (.bool a0.DelOld), (.bool a0.HasSup), (.str a0.Sup), (.str []), (.str []), (.int .i64 0), (.str [])]), (i2, .cells z0_), (i1, .cells (c_Api_Msg a0))] [] [] := H
 refine A_ <| D_ ?_
 have h := oi h; subst h
 exact ⟨.nils, .nils, .nils, .nils, (isSl_nil _), (isSl_nil _), (isSl_nil _), (isSl_nil _), kn, (hs H), rfl⟩
 refine H_ rfl hc12433 <| N_ <| D_ ?_
 have h := oi h; subst h
 exact ⟨.nils, .nils, .nils, .nils, (isSl_nil _), (isSl_nil _), (isSl_nil _), (isSl_nil _), kn, (hs H), rfl⟩
 rintro σ S e ⟨v12429, v12430, v12431, v12432, hv12429, hv12430, hv12431, hv12432, hk, H, rfl⟩
 replace h := hOy12428
 refine K_ hk <| D_ <| a_ <| S_ rfl <| F_ <| S_ rfl <| F_ <| U_ <| D_ ?_
 have h := oi h; subst h
 exact ⟨v12429, v12430, v12431, v12432, hv12429, hv12430, hv12431, hv12432, kn, (hs H), rfl⟩
 refine H_ rfl hc12442 <| N_ <| D_ <| J_ <| B_ <| us 2 rfl <| A_ ?_
 rcases iteS h with ⟨hc12441, h⟩ | ⟨hc12441, h⟩
 refine G_ rfl hc12441 <| a_ <| F_ <| F_ <| S_ rfl <| F_ <| S_ rfl <| F_ <| S_ rfl <| F_ <| S_ rfl <| F_ <| S_ rfl <| F_ <| U_ <| D_ <| J_ <| WC.drawC <| wk (.ptr i1 3) rfl rfl rfl rfl <| wkl H 2 rfl rfl rfl rfl <| wk (.ptr i1 19) rfl rfl rfl rfl <| wkl H 2 rfl rfl rfl rfl <| wk (.ptr i1 20) rfl rfl rfl rfl <| wkl H 2 rfl rfl rfl rfl <| wk (.ptr i3 3) rfl rfl rfl rfl ?_
 have Hh12435 := H
 refine wks 0 H hi3 rfl rfl rfl rfl rfl rfl rfl rfl rfl rfl ?_
 intro S H
 refine ⟨(pend_cons (ld (H.get 2 rfl) rfl) (pend_cons (ld (H.get 2 rfl) rfl) (pend_cons (ld (H.get 2 rfl) rfl) pend_nil))), ?_⟩
 refine wk (.ptr i3 19) rfl rfl rfl rfl ?_
 have Hh12436 := H
 refine wks 0 H hi3 rfl rfl rfl rfl rfl rfl rfl rfl rfl rfl ?_
 intro S H
 refine ⟨(pend_cons (ld (H.get 2 rfl) rfl) (pend_cons (ld (H.get 2 rfl) rfl) (pend_cons (ld (H.get 2 rfl) rfl) pend_nil))), ?_⟩
 refine WK.nil <| us 1 rfl <| wos 0 H hi3 rfl rfl rfl rfl rfl rfl rfl rfl rfl rfl ?_
 intro S H
 replace H : Hp [] [] _ [(i3, .cells [(.int .i64 a0.ID), (.int .i64 a0.Op), (.int .i64 0), (.str a0.DN), (.int .i64 0), (.str []), (.int .i64 0), (.int .i64 0), (.int .i64 0), (.str []), (.str []), .nils, .nils, .nils, .nils, (.str []), (.bool false), (.bool false), (.str []), (.str a0.Attr), (.str a0.Value), (.int .i64 0), (.str [])]), (i2, .cells z0_), (i1, .cells (c_Api_Msg a0))] [] [] := H
 refine A_ <| D_ <| a_ <| S_ rfl <| F_ <| U_ <| D_ ?_
 have h := oi h; subst h
 exact ⟨.nils, .nils, .nils, .nils, (isSl_nil _), (isSl_nil _), (isSl_nil _), (isSl_nil _), kn, (hs H), rfl⟩
 refine H_ rfl hc12441 <| N_ <| D_ <| B_ <| us 2 rfl <| A_ ?_
 rcases iteS h with ⟨hc12440, h⟩ | ⟨hc12440, h⟩
 refine G_ rfl hc12440 <| a_ <| F_ <| S_ rfl <| F_ <| S_ rfl <| F_ <| S_ rfl <| F_ <| S_ rfl <| F_ <| S_ rfl <| F_ <| S_ rfl <| F_ <| U_ <| D_ <| J_ <| WC.drawC <| wk (.ptr i1 2) rfl rfl rfl rfl <| wkl H 2 rfl rfl rfl rfl <| wk (.ptr i1 21) rfl rfl rfl rfl <| wkl H 2 rfl rfl rfl rfl <| wk (.ptr i1 22) rfl rfl rfl rfl <| wkl H 2 rfl rfl rfl rfl <| wk (.ptr i3 2) rfl rfl rfl rfl ?_
 have Hh12438 := H
 refine wks 0 H hi3 rfl rfl rfl rfl rfl rfl rfl rfl rfl rfl ?_
 intro S H
 refine ⟨(pend_cons (ld (H.get 2 rfl) rfl) (pend_cons (ld (H.get 2 rfl) rfl) (pend_cons (ld (H.get 2 rfl) rfl) pend_nil))), ?_⟩
 refine wk (.ptr i3 21) rfl rfl rfl rfl ?_
 have Hh12439 := H
 refine wks 0 H hi3 rfl rfl rfl rfl rfl rfl rfl rfl rfl rfl ?_
 intro S H
 refine ⟨(pend_cons (ld (H.get 2 rfl) rfl) (pend_cons (ld (H.get 2 rfl) rfl) (pend_cons (ld (H.get 2 rfl) rfl) pend_nil))), ?_⟩
 refine WK.nil <| us 1 rfl <| wos 0 H hi3 rfl rfl rfl rfl rfl rfl rfl rfl rfl rfl ?_
 intro S H
 replace H : Hp [] [] _ [(i3, .cells [(.int .i64 a0.ID), (.int .i64 a0.Op), (.int .i64 a0.Of), (.str []), (.int .i64 0), (.str []), (.int .i64 0), (.int .i64 0), (.int .i64 0), (.str []), (.str []), .nils, .nils, .nils, .nils, (.str []), (.bool false), (.bool false), (.str []), (.str []), (.str []), (.int .i64 a0.Code), (.str a0.Matched)]), (i2, .cells z0_), (i1, .cells (c_Api_Msg a0))] [] [] := H
 refine A_ <| D_ <| a_ <| U_ <| D_ ?_
 have h := oi h; subst h
 exact ⟨.nils, .nils, .nils, .nils, (isSl_nil _), (isSl_nil _), (isSl_nil _), (isSl_nil _), kn, (hs H), rfl⟩
 refine H_ rfl hc12440 <| N_ <| D_ <| a_ <| S_ rfl <| F_ <| S_ rfl <| F_ <| S_ rfl <| F_ <| S_ rfl <| F_ <| S_ rfl <| F_ <| S_ rfl <| F_ <| S_ rfl <| F_ <| U_ <| D_ ?_
 have h := oi h; subst h
 exact ⟨.nils, .nils, .nils, .nils, (isSl_nil _), (isSl_nil _), (isSl_nil _), (isSl_nil _), kn, (hs H), rfl⟩
 rintro σ S e ⟨v8297, v8298, v8299, v8300, hv8297, hv8298, hv8299, hv8300, hk, H, rfl⟩
 replace h := hOy8296
 refine K_ hk <| D_ <| B_ <| wg H 0 rfl rfl rfl rfl <| wos 1 H hi2 rfl rfl rfl rfl rfl rfl rfl rfl rfl rfl ?_
 intro S H
 replace H : Hp [] [] _ [(i3, .cells [(.int .i64 y8296.ID), (.int .i64 y8296.Op), (.int .i64 y8296.Of), (.str y8296.DN), (.int .i64 y8296.Version), (.str y8296.Pass), (.int .i64 y8296.Scope), (.int .i64 y8296.Size), (.int .i64 y8296.Filter.Kind), (.str y8296.Filter.Attr), (.str y8296.Filter.Value), v8297, v8298, v8299, v8300, (.str y8296.RDN), (.bool y8296.DelOld), (.bool y8296.HasSup), (.str y8296.Sup), (.str y8296.Attr), (.str y8296.Value), (.int .i64 y8296.Code), (.str y8296.Matched)]), (i2, .cells [(.int .i64 y8296.ID), (.int .i64 y8296.Op), (.int .i64 y8296.Of), (.str y8296.DN), (.int .i64 y8296.Version), (.str y8296.Pass), (.int .i64 y8296.Scope), (.int .i64 y8296.Size), (.int .i64 y8296.Filter.Kind), (.str y8296.Filter.Attr), (.str y8296.Filter.Value), v8297, v8298, v8299, v8300, (.str y8296.RDN), (.bool y8296.DelOld), (.bool y8296.HasSup), (.str y8296.Sup), (.str y8296.Attr), (.str y8296.Value), (.int .i64 y8296.Code), (.str y8296.Matched)]), (i1, .cells (c_Api_Msg a0))] [] [] := H
 refine A_ <| R_ ?_
 have h := oi h; subst h
 refine e_ (vs := [(.agg [(.int .i64 y8296.ID), (.int .i64 y8296.Op), (.int .i64 y8296.Of), (.str y8296.DN), (.int .i64 y8296.Version), (.str y8296.Pass), (.int .i64 y8296.Scope), (.int .i64 y8296.Size), (.int .i64 y8296.Filter.Kind), (.str y8296.Filter.Attr), (.str y8296.Filter.Value), v8297, v8298, v8299, v8300, (.str y8296.RDN), (.bool y8296.DelOld), (.bool y8296.HasSup), (.str y8296.Sup), (.str y8296.Attr), (.str y8296.Value), (.int .i64 y8296.Code), (.str y8296.Matched)])]) (res_cell rfl (H.get 1 rfl) rfl res_nil) (Q_ rfl rfl) ?_
 exact (by simp only [st_tup, List.map_cons, List.map_nil, tupled, st_agg, st1_int, st1_str, hv8297.strip1, hv8298.strip1, hv8299.strip1, hv8300.strip1, st1_bool, e_Api_Msg, c_Api_Msg])
end Go.Proofs.YtbinlabnilidiaaGreatDoor.M
