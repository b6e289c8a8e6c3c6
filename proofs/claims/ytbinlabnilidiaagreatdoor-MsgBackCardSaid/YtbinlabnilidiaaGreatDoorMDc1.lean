/- Part of the proof: the runs of functions on the abstract machine. -/
import Derived.Test.YtbinlabnilidiaaGreatDoorPamM4
import Derived.Test.YtbinlabnilidiaaGreatDoorFns
import Derived.Test.YtbinlabnilidiaaGreatDoorMDe
import Derived.Test.YtbinlabnilidiaaGreatDoorMDc
namespace Go.Proofs.YtbinlabnilidiaaGreatDoor.M
open Go Go.Pam Go.RowKit Go.WideShapes
set_option maxRecDepth 8000
set_option linter.unusedVariables false
set_option linter.unusedSimpArgs false

def F66 (k : Nat) (a0 : Str) : Option Bool :=
 some (decide ((Str.len a0) > 400))
theorem s66 : ∀ k : Nat, ∀ {a0 : Str} {r : Bool}, F66 k a0 = some r → Q 66 [(.str a0)] (.bool r) := by
 intro k a0 r h
 unfold F66 at h
 refine j_ (pf := fn66) rfl rfl (C_ rfl) rfl rfl rfl fun H => ?_
 refine B_ <| us 1 rfl <| A_ <| B_ <| us 4 rfl <| A_ <| R_ ?_
 have h := oi h; subst h
 exact kr (.bool (decide ((Str.len a0) > 400))) rfl rfl rfl
def F85_66_L0 (k : Nat) (a26 : Sl Str) (a27 : Int) : Nat → Int → Option (Out Int Int)
 | 0, _ => none
 | n + 1, x28 =>
  if decide (x28 < a27) then
  Option.bind (Sl.at? a26 x28) fun y34 =>
  Option.bind (F66 k y34) fun y35 =>
  if y35 then
  some (Out.ret x28)
  else
  F85_66_L0 k a26 a27 n (ad .i64 x28 1)
  else
  some (Out.brk x28)
def F85_66 (k : Nat) (a0 : Sl Str) : Option Int :=
 Option.bind (F85_66_L0 k a0 (Sl.len a0) k 0) fun y39 =>
 match y39 with
 | .ret y39r => some y39r
 | .brk y39b =>
 some (-1)
theorem l85_66_L0 {k : Nat} {a26 : Sl Str} {a27 : Int} {S0 : List SObj} {R : List Nat} {K : KX}  {o : Out Int Int}
  (hret : ∀ r : Int, o = .ret r → EK [(4, (.int .i64 r))] S0 R [] [] [] (K .ret))
  (hbrk : ∀ y : Int, o = .brk y → EK [] S0 R [] [] [] (K (.exit 0))) :
  ∀ {n : Nat} {x28 : Int}, F85_66_L0 k a26 a27 n x28 = some o → ∀ {σ : Nat → PV} {S : List SObj}, Known [(0, (encSl eS a26)), (1, (.fn (.func 66) [] [])), (7, (.int .i64 a27)), (8, (.int .i64 x28))] σ → Hp S0 R S [] [] [] → WC env ⟨19, S0.length⟩ (.loop pc85L0) σ S false K := by
 intro n
 induction n with
 | zero => intro _ h; cases h
 | succ n ih =>
  intro x28 h σ S  hk H
  rw [F85_66_L0] at h
  refine h_ <| b_ hk <| B_ <| us 1 rfl <| A_ <| J_ ?_
  rcases iteS h with ⟨hc38, h⟩ | ⟨hc38, h⟩
  refine G_ rfl hc38 <| N_ <| D_ <| J_ <| P_ <| B_ <| us 2 rfl <| A_ <| B_ <| us 3 rfl ?_
  obtain ⟨y34, hy34, h⟩ := bindS h
  refine w (.iptr [(.str y34)] 0) rfl (nz rfl (X_ rfl (W_ _ _) rfl rfl rfl hy34 rfl rfl)) <| us 1 rfl ?_
  obtain ⟨y35, hy35, h⟩ := bindS h
  refine cl (.bool y35) [(.str y34)] rfl rfl rfl rfl (s66 _ hy35 rfl) <| A_ ?_
  rcases iteS h with ⟨hc37, h⟩ | ⟨hc37, h⟩
  refine G_ rfl hc37 <| B_ <| us 2 rfl <| A_ <| R_ <| M_ <| I_ <| I_ ?_
  have h := oi h; subst h
  exact hret _ rfl kn (hs H)
  refine H_ rfl hc37 <| N_ <| Z_ <| D_ <| V_ <| us 2 rfl <| A_ <| D_ ?_
  exact ih h  kn (hs H)
  refine H_ rfl hc38 <| a_ <| F_ <| F_ ?_
  have h := oi h; subst h
  exact hbrk _ rfl  q_ (hs H)
theorem s85_66 : ∀ k : Nat, ∀ {a0 : Sl Str} {r : Int}, F85_66 k a0 = some r → Q 85 [(encSl eS a0), (.fn (.func 66) [] [])] (.int .i64 r) := by
 intro k a0 r h
 unfold F85_66 at h
 refine j_ (pf := fn85) rfl rfl (C_ rfl) (by simp [PV.clean, cleanL, clean_encSl clean_eS]) rfl rfl fun H => ?_
 refine B_ <| us 1 rfl <| A_ <| J_ <| B_ <| us 1 rfl <| wl rfl rfl rfl <| us 1 rfl <| A_ ?_
 obtain ⟨y39, hy39, hOy39⟩ := bindS h
 refine P_ ?_
 refine l85_66_L0 ?_ ?_ hy39  kn (hs H)
 intro y39r he σ S  hk H; subst he; replace h := hOy39; dsimp only at h
 refine K_ hk <| M_ <| I_ ?_
 have h := oi h; subst h
 exact kr (.int .i64 y39r) rfl rfl rfl
 intro y39b he σ S  hk H; subst he; replace h := hOy39; dsimp only at h
 refine K_ hk <| U_ <| D_ <| B_ <| us 1 rfl <| A_ <| R_ ?_
 have h := oi h; subst h
 exact kr (.int .i64 (-1)) rfl rfl rfl
def F65_66 (k : Nat) (a0 : Sl Str) : Option Bool :=
 Option.bind (F85_66 k a0) fun y1 =>
 some (decide (y1 ≥ 0))
theorem s65_66 : ∀ k : Nat, ∀ {a0 : Sl Str} {r : Bool}, F65_66 k a0 = some r → Q 65 [(encSl eS a0), (.fn (.func 66) [] [])] (.bool r) := by
 intro k a0 r h
 unfold F65_66 at h
 refine j_ (pf := fn65) rfl rfl (C_ rfl) (by simp [PV.clean, cleanL, clean_encSl clean_eS]) rfl rfl fun H => ?_
 refine B_ <| us 1 rfl <| A_ <| B_ <| us 2 rfl ?_
 obtain ⟨y1, hy1, h⟩ := bindS h
 refine cl (.int .i64 y1) [(encSl eS a0), (.fn (.func 66) [] [])] rfl rfl rfl (fe rfl (fz_tmp' rfl rfl)) (sv (s85_66 _ hy1)) <| us 2 rfl <| A_ <| R_ ?_
 have h := oi h; subst h
 exact kr (.bool (decide (y1 ≥ 0))) rfl rfl rfl
def F31 (k : Nat) (a0 : Sl Str) : Option Bool :=
 Option.bind (F65_66 k a0) fun y1 =>
 some (!y1)
theorem s31 : ∀ k : Nat, ∀ {a0 : Sl Str} {r : Bool}, F31 k a0 = some r → Q 31 [(encSl eS a0)] (.bool r) := by
 intro k a0 r h
 unfold F31 at h
 refine j_ (pf := fn31) rfl rfl (C_ rfl) (by simp [PV.clean, cleanL, clean_encSl clean_eS]) rfl rfl fun H => ?_
 refine B_ <| us 1 rfl <| A_ <| B_ <| us 1 rfl ?_
 obtain ⟨y1, hy1, h⟩ := bindS h
 refine cl (.bool y1) [(encSl eS a0), (.fn (.func 66) [] [])] rfl rfl rfl (fe rfl (fo rfl rfl)) (sv (s65_66 _ hy1)) <| us 2 rfl <| A_ <| R_ ?_
 have h := oi h; subst h
 exact kr (.bool (!y1)) rfl rfl rfl
def F86 (k : Nat) (a0 : Int) : Option Bool :=
 some ((decide (a0 ≥ 1)) && (decide (a0 ≤ 3)))
theorem s86 : ∀ k : Nat, ∀ {a0 : Int} {r : Bool}, F86 k a0 = some r → Q 86 [(.int .i64 a0)] (.bool r) := by
 intro k a0 r h
 unfold F86 at h
 refine j_ (pf := fn86) rfl rfl (C_ rfl) rfl rfl rfl fun H => ?_
 refine B_ <| us 1 rfl <| A_ <| B_ <| us 1 rfl <| w (.bool (decide (a0 ≥ 1))) rfl rfl <| w (.bool (decide (a0 ≥ 1))) rfl rfl ?_
 refine O_ 3 (SH H [(8, (.bool ((decide (a0 ≥ 1)) && (decide (a0 ≤ 3)))))]) ?_ ?_
 revert H
 cases hc1 : (decide (a0 ≥ 1))
 intro H
 refine us 3 rfl <| A_ ?_
 exact kf H
 intro H
 refine us 3 rfl <| A_ ?_
 exact kf H
 rintro σ S e ⟨hk, H, rfl⟩
 refine E_ hk <| us 1 rfl <| A_ <| R_ ?_
 have h := oi h; subst h
 exact kr (.bool ((decide (a0 ≥ 1)) && (decide (a0 ≤ 3)))) rfl rfl rfl
def F67_L0 (rc0 : Api_Filter → Option Int) (k : Nat) (a26 : Api_Filter) : Nat → Int → Int → Option (Int × Int)
 | 0, _, _ => none
 | n + 1, x24, x25 =>
  Option.bind (F86 k a26.Kind) fun y27 =>
  if (y27 && (decide (x25 < (Sl.len a26.Kids)))) && (decide (x24 ≤ 20)) then
  Option.bind (Sl.at? a26.Kids x25) fun y33 =>
  Option.bind (rc0 y33) fun y34 =>
  F67_L0 rc0 k a26 n (ad .i64 x24 y34) (ad .i64 x25 1)
  else
  some (x24, x25)
def F67 : Nat → Api_Filter → Option Int
 | 0, _ => none
 | k + 1, a0 =>
  Option.bind (F67_L0 (F67 k) k a0 k 1 0) fun y36 =>
  some (imin y36.1 21)
theorem l67_L0 {rc0 : Api_Filter → Option Int} (hrc0 : ∀ {a0 : Api_Filter} {r : Int}, rc0 a0 = some r → Q 67 [(.agg (c_Api_Filter a0))] (.int .i64 r)) {k : Nat} {a26 : Api_Filter} {S0 : List SObj} {R : List Nat} {K : KX} {i1 : Nat} (hi1 : S0.length ≤ i1)  {o : (Int × Int)}
  (hbrk : EK [(3, (.int .i64 o.1))] S0 R [(i1, .cells (c_Api_Filter a26))] [] [] (K (.exit 0))) :
  ∀ {n : Nat} {x24 : Int} {x25 : Int}, F67_L0 rc0 k a26 n x24 x25 = some o → ∀ {σ : Nat → PV} {S : List SObj}, Known [(1, (.ptr i1 0)), (3, (.int .i64 x24)), (4, (.int .i64 x25))] σ → Hp S0 R S [(i1, .cells (c_Api_Filter a26))] [] [] → WC env ⟨31, S0.length⟩ (.loop pc67L0) σ S false K := by
 intro n
 induction n with
 | zero => intro _ _ h; cases h
 | succ n ih =>
  intro x24 x25 h σ S  hk H
  rw [F67_L0] at h
  refine h_ <| b_ hk <| J_ <| B_ <| us 1 rfl <| wg H 0 rfl rfl rfl rfl ?_
  obtain ⟨y27, hy27, h⟩ := bindS h
  refine cl (.bool y27) [(.int .i64 a26.Kind)] rfl rfl rfl rfl (s86 _ hy27 rfl) <| us 1 rfl ?_
  refine O_ 6 (SH H [(1, (.ptr i1 0)), (3, (.int .i64 x24)), (4, (.int .i64 x25)), (14, (.bool (y27 && (decide (x25 < (Sl.len a26.Kids))))))]) ?_ ?_
  revert H
  cases hc28 : y27
  intro H
  refine us 6 rfl <| A_ ?_
  exact kf H
  intro H
  refine us 2 rfl <| L_ rfl rfl <| wg H 0 rfl rfl rfl rfl <| L_ rfl rfl <| wl rfl rfl rfl <| us 2 rfl <| A_ ?_
  exact kf H
  rintro σ S e ⟨hk, H, rfl⟩
  refine E_ hk <| w (.bool (y27 && (decide (x25 < (Sl.len a26.Kids))))) rfl rfl ?_
  refine O_ 3 (SH H [(1, (.ptr i1 0)), (3, (.int .i64 x24)), (4, (.int .i64 x25)), (18, (.bool ((y27 && (decide (x25 < (Sl.len a26.Kids)))) && (decide (x24 ≤ 20)))))]) ?_ ?_
  revert H
  cases hc29 : (y27 && (decide (x25 < (Sl.len a26.Kids))))
  intro H
  refine us 3 rfl <| A_ ?_
  exact kf H
  intro H
  refine us 3 rfl <| A_ ?_
  exact kf H
  rintro σ S e ⟨hk, H, rfl⟩
  refine E_ hk <| A_ ?_
  rcases iteS h with ⟨hc35, h⟩ | ⟨hc35, h⟩
  refine G_ rfl hc35 <| N_ <| D_ <| J_ <| P_ <| V_ <| us 2 rfl <| wg H 0 rfl rfl rfl rfl <| us 1 rfl ?_
  obtain ⟨y33, hy33, h⟩ := bindS h
  refine w (.iptr (c_Api_Filter y33) 0) rfl (nz rfl (X_ rfl (W_ _ _) rfl rfl rfl hy33 (e_Api_Filter_cells _) rfl)) <| us 1 rfl ?_
  obtain ⟨y34, hy34, h⟩ := bindS h
  refine cl (.int .i64 y34) [(.agg (c_Api_Filter y33))] rfl rfl rfl rfl (sv (hrc0 hy34)) <| us 2 rfl <| A_ <| Z_ <| D_ <| V_ <| us 3 rfl <| A_ <| D_ ?_
  exact ih h  kn (hs H)
  refine H_ rfl hc35 <| a_ <| F_ <| F_ ?_
  have h := oi h; subst h
  exact hbrk  kn (hs H)
theorem s67 : ∀ k : Nat, ∀ {a0 : Api_Filter} {r : Int}, F67 k a0 = some r → Q 67 [(.agg (c_Api_Filter a0))] (.int .i64 r) := by
 intro k
 induction k with
 | zero => intro _ r h; cases h
 | succ k ih =>
  intro a0 r h
  rw [F67] at h
  refine j_ (pf := fn67) rfl rfl (C_ rfl) (by simp [PV.clean, cleanL, clean_encSl clean_Api_Filter, clean_encSl clean_eS]) rfl rfl fun H => ?_
  refine B_ <| g_ rfl rfl rfl rfl rfl H ?_
  intro i1 S hi1 H
  refine us 1 rfl <| A_ <| B_ <| us 1 rfl <| A_ <| J_ <| B_ <| us 1 rfl <| A_ ?_
  obtain ⟨y36, hy36, hOy36⟩ := bindS h
  refine P_ ?_
  refine l67_L0 ih hi1 ?_ hy36  kn (hs H)
  intro σ S  hk H; replace h := hOy36
  refine K_ hk <| U_ <| D_ <| B_ <| us 3 rfl <| A_ <| R_ ?_
  have h := oi h; subst h
  exact kr (.int .i64 (imin y36.1 21)) rfl rfl rfl
def F88 (k : Nat) (rc0 : Api_Filter → Option Bool) (a0 : Api_Filter) : Option Bool :=
 Option.bind (rc0 a0) fun y2 =>
 some (!y2)
theorem s88 {rc0 : Api_Filter → Option Bool} (hrc0 : ∀ {a0 : Api_Filter} {r : Bool}, rc0 a0 = some r → Q 68 [(.agg (c_Api_Filter a0))] (.bool r))  : ∀ k : Nat, ∀ {a0 : Api_Filter} {r : Bool}, F88 k rc0 a0 = some r → Q 88 [(.agg (c_Api_Filter a0))] (.bool r) := by
 intro k a0 r h
 unfold F88 at h
 refine j_ (pf := fn88) rfl rfl (C_ rfl) (by simp [PV.clean, cleanL, clean_encSl clean_Api_Filter, clean_encSl clean_eS]) rfl rfl fun H => ?_
 refine B_ <| g_ rfl rfl rfl rfl rfl H ?_
 intro i1 S hi1 H
 refine us 1 rfl <| A_ <| B_ <| wg H 0 rfl rfl rfl rfl ?_
 obtain ⟨y2, hy2, h⟩ := bindS h
 refine cl (.bool y2) [(.agg (c_Api_Filter a0))] rfl rfl rfl rfl (sv (hrc0 hy2)) <| us 2 rfl <| A_ <| R_ ?_
 have h := oi h; subst h
 exact kr (.bool (!y2)) rfl rfl rfl
def F106_88_L0 (rc0 : Api_Filter → Option Bool) (k : Nat) (a26 : Sl Api_Filter) (a27 : Int) : Nat → Int → Option (Out Int Int)
 | 0, _ => none
 | n + 1, x28 =>
  if decide (x28 < a27) then
  Option.bind (Sl.at? a26 x28) fun y34 =>
  Option.bind (F88 k rc0 y34) fun y35 =>
  if y35 then
  some (Out.ret x28)
  else
  F106_88_L0 rc0 k a26 a27 n (ad .i64 x28 1)
  else
  some (Out.brk x28)
def F106_88 (k : Nat) (rc0 : Api_Filter → Option Bool) (a0 : Sl Api_Filter) : Option Int :=
 Option.bind (F106_88_L0 rc0 k a0 (Sl.len a0) k 0) fun y39 =>
 match y39 with
 | .ret y39r => some y39r
 | .brk y39b =>
 some (-1)
theorem l106_88_L0 {rc0 : Api_Filter → Option Bool} (hrc0 : ∀ {a0 : Api_Filter} {r : Bool}, rc0 a0 = some r → Q 68 [(.agg (c_Api_Filter a0))] (.bool r)) {k : Nat} {a26 : Sl Api_Filter} {a27 : Int} {S0 : List SObj} {R : List Nat} {K : KX}  {o : Out Int Int}
  (hret : ∀ r : Int, o = .ret r → EK [(4, (.int .i64 r))] S0 R [] [] [] (K .ret))
  (hbrk : ∀ y : Int, o = .brk y → EK [] S0 R [] [] [] (K (.exit 0))) :
  ∀ {n : Nat} {x28 : Int}, F106_88_L0 rc0 k a26 a27 n x28 = some o → ∀ {σ : Nat → PV} {S : List SObj}, Known [(0, (encSl e_Api_Filter a26)), (1, (.fn (.func 88) [] [])), (7, (.int .i64 a27)), (8, (.int .i64 x28))] σ → Hp S0 R S [] [] [] → WC env ⟨19, S0.length⟩ (.loop pc106L0) σ S false K := by
 intro n
 induction n with
 | zero => intro _ h; cases h
 | succ n ih =>
  intro x28 h σ S  hk H
  rw [F106_88_L0] at h
  refine h_ <| b_ hk <| B_ <| us 1 rfl <| A_ <| J_ ?_
  rcases iteS h with ⟨hc38, h⟩ | ⟨hc38, h⟩
  refine G_ rfl hc38 <| N_ <| D_ <| J_ <| P_ <| B_ <| us 2 rfl <| A_ <| B_ <| us 3 rfl ?_
  obtain ⟨y34, hy34, h⟩ := bindS h
  refine w (.iptr (c_Api_Filter y34) 0) rfl (nz rfl (X_ rfl (W_ _ _) rfl rfl rfl hy34 (e_Api_Filter_cells _) rfl)) <| us 1 rfl ?_
  obtain ⟨y35, hy35, h⟩ := bindS h
  refine cl (.bool y35) [(.agg (c_Api_Filter y34))] rfl rfl rfl rfl (sv (s88 hrc0 _ hy35)) <| A_ ?_
  rcases iteS h with ⟨hc37, h⟩ | ⟨hc37, h⟩
  refine G_ rfl hc37 <| B_ <| us 2 rfl <| A_ <| R_ <| M_ <| I_ <| I_ ?_
  have h := oi h; subst h
  exact hret _ rfl kn (hs H)
  refine H_ rfl hc37 <| N_ <| Z_ <| D_ <| V_ <| us 2 rfl <| A_ <| D_ ?_
  exact ih h  kn (hs H)
  refine H_ rfl hc38 <| a_ <| F_ <| F_ ?_
  have h := oi h; subst h
  exact hbrk _ rfl  q_ (hs H)
theorem s106_88 {rc0 : Api_Filter → Option Bool} (hrc0 : ∀ {a0 : Api_Filter} {r : Bool}, rc0 a0 = some r → Q 68 [(.agg (c_Api_Filter a0))] (.bool r))  : ∀ k : Nat, ∀ {a0 : Sl Api_Filter} {r : Int}, F106_88 k rc0 a0 = some r → Q 106 [(encSl e_Api_Filter a0), (.fn (.func 88) [] [])] (.int .i64 r) := by
 intro k a0 r h
 unfold F106_88 at h
 refine j_ (pf := fn106) rfl rfl (C_ rfl) (by simp [PV.clean, cleanL, clean_encSl clean_Api_Filter]) rfl rfl fun H => ?_
 refine B_ <| us 1 rfl <| A_ <| J_ <| B_ <| us 1 rfl <| wl rfl rfl rfl <| us 1 rfl <| A_ ?_
 obtain ⟨y39, hy39, hOy39⟩ := bindS h
 refine P_ ?_
 refine l106_88_L0 hrc0 ?_ ?_ hy39  kn (hs H)
 intro y39r he σ S  hk H; subst he; replace h := hOy39; dsimp only at h
 refine K_ hk <| M_ <| I_ ?_
 have h := oi h; subst h
 exact kr (.int .i64 y39r) rfl rfl rfl
 intro y39b he σ S  hk H; subst he; replace h := hOy39; dsimp only at h
 refine K_ hk <| U_ <| D_ <| B_ <| us 1 rfl <| A_ <| R_ ?_
 have h := oi h; subst h
 exact kr (.int .i64 (-1)) rfl rfl rfl
def F87_88 (k : Nat) (rc0 : Api_Filter → Option Bool) (a0 : Sl Api_Filter) : Option Bool :=
 Option.bind (F106_88 k rc0 a0) fun y1 =>
 some (decide (y1 ≥ 0))
theorem s87_88 {rc0 : Api_Filter → Option Bool} (hrc0 : ∀ {a0 : Api_Filter} {r : Bool}, rc0 a0 = some r → Q 68 [(.agg (c_Api_Filter a0))] (.bool r))  : ∀ k : Nat, ∀ {a0 : Sl Api_Filter} {r : Bool}, F87_88 k rc0 a0 = some r → Q 87 [(encSl e_Api_Filter a0), (.fn (.func 88) [] [])] (.bool r) := by
 intro k a0 r h
 unfold F87_88 at h
 refine j_ (pf := fn87) rfl rfl (C_ rfl) (by simp [PV.clean, cleanL, clean_encSl clean_Api_Filter]) rfl rfl fun H => ?_
 refine B_ <| us 1 rfl <| A_ <| B_ <| us 2 rfl ?_
 obtain ⟨y1, hy1, h⟩ := bindS h
 refine cl (.int .i64 y1) [(encSl e_Api_Filter a0), (.fn (.func 88) [] [])] rfl rfl rfl (fe rfl (fz_tmp' rfl rfl)) (sv (s106_88 hrc0 _ hy1)) <| us 2 rfl <| A_ <| R_ ?_
 have h := oi h; subst h
 exact kr (.bool (decide (y1 ≥ 0))) rfl rfl rfl
def F89_L0 (k : Nat) (a997 : Sl Int) (a999 : Int) : Nat → Int → Option (Out Bool Int)
 | 0, _ => none
 | n + 1, x1000 =>
  if decide (x1000 < a999) then
  Option.bind (Sl.at? a997 x1000) fun y1244 =>
  Option.bind (if (decide (y1244 ≥ 97)) && (decide (y1244 ≤ 122)) then
  some (Out.brk ())
  else
  Option.bind (if (decide (y1244 ≥ 48)) && (decide (y1244 ≤ 57)) then
  some ((decide (y1244 ≥ 48)) && (decide (y1244 ≤ 57)))
  else
  some (y1244 == 45)) fun y1481 =>
  if y1481 then
  some (Out.brk ())
  else
  some (Out.ret (Out.ret false))) fun y1405 =>
  match y1405 with
  | .ret r => some r
  | .brk y1405b =>
  F89_L0 k a997 a999 n (ad .i64 x1000 1)
  else
  some (Out.brk x1000)
def F89 (k : Nat) (a0 : Str) : Option Bool :=
 Option.bind (if (a0 == []) || (decide ((Str.len a0) > 16)) then
 some true
 else
 Option.bind (Str.at? a0 0) fun c7 =>
 some (decide (c7 < 97))) fun y6 =>
 Option.bind (if y6 then
 some true
 else
 Option.bind (Str.at? a0 0) fun c14 =>
 some (decide (c14 > 122))) fun y13 =>
 if y13 then
 some false
 else
 Option.bind (F89_L0 k (Str.bytes a0) (Sl.len (Str.bytes a0)) k 0) fun y1487 =>
 match y1487 with
 | .ret y1487r => some y1487r
 | .brk y1487b =>
 some true
theorem l89_L0 {k : Nat} {a997 : Sl Int} {a999 : Int} {S0 : List SObj} {R : List Nat} {K : KX} {v998 : PV} (hv998 : IsSl (eI .u8) a997 v998)  {o : Out Bool Int}
  (hret : ∀ r : Bool, o = .ret r → EK [(2, (.bool r))] S0 R [] [] [] (K .ret))
  (hbrk : ∀ y : Int, o = .brk y → EK [] S0 R [] [] [] (K (.exit 0))) :
  ∀ {n : Nat} {x1000 : Int}, F89_L0 k a997 a999 n x1000 = some o → ∀ {σ : Nat → PV} {S : List SObj}, Known [(23, v998), (24, (.int .i64 a999)), (25, (.int .i64 x1000))] σ → Hp S0 R S [] [] [] → WC env ⟨46, S0.length⟩ (.loop pc89L0) σ S false K := by
 intro n
 induction n with
 | zero => intro _ h; cases h
 | succ n ih =>
  intro x1000 h σ S  hk H
  rw [F89_L0] at h
  refine h_ <| b_ hk <| B_ <| us 1 rfl <| A_ <| J_ ?_
  rcases iteS h with ⟨hc1486, h⟩ | ⟨hc1486, h⟩
  refine G_ rfl hc1486 <| N_ <| D_ <| J_ <| P_ <| B_ ?_
  obtain ⟨y1244, hy1244, h⟩ := bindS h
  refine w (.iptr [(.int .u8 y1244)] 0) rfl (nz rfl (X_ rfl hv998 rfl rfl rfl hy1244 rfl rfl)) <| us 2 rfl <| A_ ?_
  obtain ⟨y1405, hy1405, hOy1405⟩ := bindS h
  refine f_ (fun σ' S' e' => ∃ y1405b, y1405 = .brk y1405b ∧ Known ([(23, v998), (24, (.int .i64 a999)), (25, (.int .i64 x1000))]) σ' ∧ Hp S0 R S' [] [] [] ∧ e' = false) ?_ ?_
  replace h := hy1405
  refine P_ <| J_ <| P_ <| J_ <| P_ <| P_ <| J_ <| J_ <| B_ <| us 1 rfl <| w (.bool (decide (y1244 ≥ 97))) rfl rfl <| w (.bool (decide (y1244 ≥ 97))) rfl rfl ?_
  refine O_ 3 (SH H [(4, (.int .u8 y1244)), (23, v998), (24, (.int .i64 a999)), (25, (.int .i64 x1000)), (35, (.bool ((decide (y1244 ≥ 97)) && (decide (y1244 ≤ 122)))))]) ?_ ?_
  revert H
  cases hc1476 : (decide (y1244 ≥ 97))
  intro H
  refine us 3 rfl <| A_ ?_
  exact kf H
  intro H
  refine us 3 rfl <| A_ ?_
  exact kf H
  rintro σ S e ⟨hk, H, rfl⟩
  refine E_ hk <| us 1 rfl <| A_ ?_
  rcases iteS h with ⟨hc1485, h⟩ | ⟨hc1485, h⟩
  refine G_ rfl hc1485 <| a_ <| F_ <| F_ <| U_ <| Z_ <| D_ <| a_ <| S_ rfl <| F_ <| U_ <| D_ ?_
  have h := oi h; subst h
  exact ⟨_, rfl, kn, (hs H), rfl⟩
  refine H_ rfl hc1485 <| N_ <| D_ <| J_ <| B_ <| us 1 rfl <| w (.bool (decide (y1244 ≥ 48))) rfl rfl <| w (.bool (decide (y1244 ≥ 48))) rfl rfl ?_
  refine O_ 3 (SH H [(4, (.int .u8 y1244)), (23, v998), (24, (.int .i64 a999)), (25, (.int .i64 x1000)), (42, (.bool ((decide (y1244 ≥ 48)) && (decide (y1244 ≤ 57)))))]) ?_ ?_
  revert H
  cases hc1478 : (decide (y1244 ≥ 48))
  intro H
  refine us 3 rfl <| A_ ?_
  exact kf H
  intro H
  refine us 3 rfl <| A_ ?_
  exact kf H
  rintro σ S e ⟨hk, H, rfl⟩
  refine E_ hk <| us 1 rfl <| A_ ?_
  obtain ⟨y1481, hy1481, hOy1481⟩ := bindS h
  refine f_ (SJ [(23, v998), (24, (.int .i64 a999)), (25, (.int .i64 x1000)), (36, (.bool y1481))] S0 R [] [] [] false) ?_ ?_
  replace h := hy1481
  rcases iteS h with ⟨hc1482, h⟩ | ⟨hc1482, h⟩
  refine G_ rfl hc1482 <| N_ <| D_ ?_
  have h := oi h; subst h
  exact kh H
  refine H_ rfl hc1482 <| V_ <| us 3 rfl <| A_ <| D_ ?_
  have h := oi h; subst h
  exact kh H
  rintro σ S e ⟨hk, H, rfl⟩
  replace h := hOy1481
  refine K_ hk <| D_ ?_
  rcases iteS h with ⟨hc1484, h⟩ | ⟨hc1484, h⟩
  refine G_ rfl hc1484 <| a_ <| F_ <| S_ rfl <| U_ <| D_ <| a_ <| S_ rfl <| F_ <| U_ <| D_ ?_
  have h := oi h; subst h
  exact ⟨_, rfl, kn, (hs H), rfl⟩
  refine H_ rfl hc1484 <| N_ <| D_ <| a_ <| S_ rfl <| S_ rfl <| F_ <| U_ <| D_ <| J_ <| B_ <| us 1 rfl <| A_ <| R_ <| I_ <| M_ <| I_ ?_
  have h := oi h; subst h
  replace h := hOy1405
  refine M_ <| I_ <| I_ ?_
  have h := oi h; subst h
  exact hret _ rfl kn (hs H)
  rintro σ S e ⟨y1405b, rfl, hk, H, rfl⟩
  replace h := hOy1405
  dsimp only at h
  refine K_ hk <| Z_ <| D_ <| V_ <| us 2 rfl <| A_ <| D_ ?_
  exact ih h  kn (hs H)
  refine H_ rfl hc1486 <| a_ <| F_ <| F_ ?_
  have h := oi h; subst h
  exact hbrk _ rfl  q_ (hs H)
theorem s89 : ∀ k : Nat, ∀ {a0 : Str} {r : Bool}, F89 k a0 = some r → Q 89 [(.str a0)] (.bool r) := by
 intro k a0 r h
 unfold F89 at h
 refine j_ (pf := fn89) rfl rfl (C_ rfl) rfl rfl rfl fun H => ?_
 refine B_ <| us 1 rfl <| A_ <| J_ <| B_ <| us 1 rfl <| w (.bool (a0 == [])) rfl rfl <| w (.bool (a0 == [])) rfl rfl ?_
 refine O_ 4 (SH H [(0, (.str a0)), (11, (.bool ((a0 == []) || (decide ((Str.len a0) > 16)))))]) ?_ ?_
 revert H
 cases hc1 : (a0 == [])
 intro H
 refine us 4 rfl <| A_ ?_
 exact kf H
 intro H
 refine us 4 rfl <| A_ ?_
 exact kf H
 rintro σ S e ⟨hk, H, rfl⟩
 refine E_ hk <| w (.bool ((a0 == []) || (decide ((Str.len a0) > 16)))) rfl rfl ?_
 obtain ⟨y6, hy6, hOy6⟩ := bindS h
 refine O_ 4 (SJ [(0, (.str a0)), (16, (.bool y6))] [] [] [] [] [] false) ?_ ?_
 replace h := hy6
 revert H
 cases hc8 : ((a0 == []) || (decide ((Str.len a0) > 16)))
 intro H
 replace h := iteF h hc8
 refine us 1 rfl <| L_ rfl rfl ?_
 obtain ⟨c7, hc7, h⟩ := bindS h
 refine w (.int .u8 c7) rfl (nz rfl (stp_idxStr rfl rfl rfl hc7)) <| us 2 rfl <| A_ ?_
 have h := oi h; subst h
 exact kh H
 intro H
 replace h := iteT h hc8
 refine us 4 rfl <| A_ ?_
 have h := oi h; subst h
 exact kh H
 rintro σ S e ⟨hk, H, rfl⟩
 replace h := hOy6
 refine E_ hk <| us 1 rfl ?_
 obtain ⟨y13, hy13, hOy13⟩ := bindS h
 refine O_ 4 (SJ [(0, (.str a0)), (21, (.bool y13))] [] [] [] [] [] false) ?_ ?_
 replace h := hy13
 revert H
 cases hc15 : y6
 intro H
 replace h := iteF h hc15
 refine us 1 rfl <| L_ rfl rfl ?_
 obtain ⟨c14, hc14, h⟩ := bindS h
 refine w (.int .u8 c14) rfl (nz rfl (stp_idxStr rfl rfl rfl hc14)) <| us 2 rfl <| A_ ?_
 have h := oi h; subst h
 exact kh H
 intro H
 replace h := iteT h hc15
 refine us 4 rfl <| A_ ?_
 have h := oi h; subst h
 exact kh H
 rintro σ S e ⟨hk, H, rfl⟩
 replace h := hOy13
 refine E_ hk <| A_ ?_
 rcases iteS h with ⟨hc1488, h⟩ | ⟨hc1488, h⟩
 refine G_ rfl hc1488 <| B_ <| us 1 rfl <| A_ <| R_ <| I_ ?_
 have h := oi h; subst h
 exact kr (.bool false) rfl rfl rfl
 refine H_ rfl hc1488 <| N_ <| D_ <| J_ <| B_ <| us 1 rfl <| WO.ex rfl (nzx rfl (stp_bytes rfl rfl rfl rfl H)) ?_
 rintro v17 S ⟨hv17, H⟩
 replace H : Hp [] [] _ [] [(v17, 1)] [] := H
 refine w (.int .i64 (Sl.len (Str.bytes a0))) rfl (nz rfl (stp_len rfl hv17 rfl)) <| us 1 rfl <| A_ ?_
 obtain ⟨y1487, hy1487, hOy1487⟩ := bindS h
 refine P_ ?_
 refine l89_L0 (hv17) ?_ ?_ hy1487  kn (H.sub .slnil (.cons _ .slnil) .slnil)
 intro y1487r he σ S  hk H; subst he; replace h := hOy1487; dsimp only at h
 refine K_ hk <| M_ <| I_ ?_
 have h := oi h; subst h
 exact kr (.bool y1487r) rfl rfl rfl
 intro y1487b he σ S  hk H; subst he; replace h := hOy1487; dsimp only at h
 refine K_ hk <| U_ <| D_ <| B_ <| us 1 rfl <| A_ <| R_ ?_
 have h := oi h; subst h
 exact kr (.bool true) rfl rfl rfl
def F90_L0 (k : Nat) (a59 : Sl Str) (a60 : Int) : Nat → Int → Option (Out Bool Int)
 | 0, _ => none
 | n + 1, x61 =>
  if decide (x61 < a60) then
  Option.bind (Sl.at? a59 x61) fun y73 =>
  if (decide ((Str.len y73) > 60)) || (((y73 == []) && (decide (x61 > 0))) && (decide (x61 < (sb .i64 (Sl.len a59) 1)))) then
  some (Out.ret false)
  else
  F90_L0 k a59 a60 n (ad .i64 x61 1)
  else
  some (Out.brk x61)
def F90 (k : Nat) (a0 : Sl Str) : Option Bool :=
 Option.bind (if (decide ((Sl.len a0) < 2)) || (decide ((Sl.len a0) > 20)) then
 some true
 else
 Option.bind (Sl.join? a0 []) fun y7 =>
 some (y7 == [])) fun y6 =>
 if y6 then
 some false
 else
 Option.bind (F90_L0 k a0 (Sl.len a0) k 0) fun y84 =>
 match y84 with
 | .ret y84r => some y84r
 | .brk y84b =>
 some true
theorem l90_L0 {k : Nat} {a59 : Sl Str} {a60 : Int} {S0 : List SObj} {R : List Nat} {K : KX}  {o : Out Bool Int}
  (hret : ∀ r : Bool, o = .ret r → EK [(2, (.bool r))] S0 R [] [] [] (K .ret))
  (hbrk : ∀ y : Int, o = .brk y → EK [] S0 R [] [] [] (K (.exit 0))) :
  ∀ {n : Nat} {x61 : Int}, F90_L0 k a59 a60 n x61 = some o → ∀ {σ : Nat → PV} {S : List SObj}, Known [(0, (encSl eS a59)), (18, (encSl eS a59)), (19, (.int .i64 a60)), (20, (.int .i64 x61))] σ → Hp S0 R S [] [] [] → WC env ⟨44, S0.length⟩ (.loop pc90L0) σ S false K := by
 intro n
 induction n with
 | zero => intro _ h; cases h
 | succ n ih =>
  intro x61 h σ S  hk H
  rw [F90_L0] at h
  refine h_ <| b_ hk <| B_ <| us 1 rfl <| A_ <| J_ ?_
  rcases iteS h with ⟨hc83, h⟩ | ⟨hc83, h⟩
  refine G_ rfl hc83 <| N_ <| D_ <| J_ <| P_ <| B_ <| us 1 rfl ?_
  obtain ⟨y73, hy73, h⟩ := bindS h
  refine w (.iptr [(.str y73)] 0) rfl (nz rfl (X_ rfl (W_ _ _) rfl rfl rfl hy73 rfl rfl)) <| us 3 rfl <| A_ <| B_ <| us 2 rfl <| w (.bool (decide ((Str.len y73) > 60))) rfl rfl <| w (.bool (decide ((Str.len y73) > 60))) rfl rfl ?_
  refine O_ 14 (SJ [(0, (encSl eS a59)), (18, (encSl eS a59)), (19, (.int .i64 a60)), (20, (.int .i64 x61)), (42, (.bool ((decide ((Str.len y73) > 60)) || (((y73 == []) && (decide (x61 > 0))) && (decide (x61 < (sb .i64 (Sl.len a59) 1)))))))] S0 R [] [] [] false) ?_ ?_
  revert H
  cases hc78 : (decide ((Str.len y73) > 60))
  intro H
  refine us 1 rfl <| L_ rfl rfl <| w (.bool (y73 == [])) rfl rfl <| L_ rfl rfl <| w (.bool (y73 == [])) rfl rfl ?_
  refine O_ 3 (SH H [(0, (encSl eS a59)), (3, (.int .i64 x61)), (18, (encSl eS a59)), (19, (.int .i64 a60)), (20, (.int .i64 x61)), (28, (.bool false)), (34, (.bool ((y73 == []) && (decide (x61 > 0)))))]) ?_ ?_
  revert H
  cases hc79 : (y73 == [])
  intro H
  refine us 3 rfl <| A_ ?_
  exact kf H
  intro H
  refine us 3 rfl <| A_ ?_
  exact kf H
  rintro σ S e ⟨hk, H, rfl⟩
  refine E_ hk <| L_ rfl rfl <| w (.bool ((y73 == []) && (decide (x61 > 0)))) rfl rfl ?_
  refine O_ 6 (SH H [(0, (encSl eS a59)), (18, (encSl eS a59)), (19, (.int .i64 a60)), (20, (.int .i64 x61)), (28, (.bool false)), (41, (.bool (((y73 == []) && (decide (x61 > 0))) && (decide (x61 < (sb .i64 (Sl.len a59) 1))))))]) ?_ ?_
  revert H
  cases hc80 : ((y73 == []) && (decide (x61 > 0)))
  intro H
  refine us 6 rfl <| A_ ?_
  exact kf H
  intro H
  refine us 2 rfl <| L_ rfl rfl <| wl rfl rfl rfl <| us 3 rfl <| A_ ?_
  exact kf H
  rintro σ S e ⟨hk, H, rfl⟩
  refine E_ hk <| us 1 rfl <| A_ ?_
  exact kf H
  intro H
  refine us 3 rfl <| WO.by0 rfl rfl <| WO.by0 rfl rfl <| us 2 rfl <| WO.by0 rfl rfl <| WO.by0 rfl rfl <| WO.by0 rfl rfl <| WO.by0 rfl rfl <| WO.by0 rfl rfl <| us 2 rfl <| A_ ?_
  exact kf H
  rintro σ S e ⟨hk, H, rfl⟩
  refine E_ hk <| A_ ?_
  rcases iteS h with ⟨hc82, h⟩ | ⟨hc82, h⟩
  refine G_ rfl hc82 <| B_ <| us 1 rfl <| A_ <| R_ <| M_ <| I_ <| I_ ?_
  have h := oi h; subst h
  exact hret _ rfl kn (hs H)
  refine H_ rfl hc82 <| N_ <| Z_ <| D_ <| V_ <| us 2 rfl <| A_ <| D_ ?_
  exact ih h  kn (hs H)
  refine H_ rfl hc83 <| a_ <| F_ <| F_ ?_
  have h := oi h; subst h
  exact hbrk _ rfl  q_ (hs H)
theorem s90 : ∀ k : Nat, ∀ {a0 : Sl Str} {r : Bool}, F90 k a0 = some r → Q 90 [(encSl eS a0)] (.bool r) := by
 intro k a0 r h
 unfold F90 at h
 refine j_ (pf := fn90) rfl rfl (C_ rfl) (by simp [PV.clean, cleanL, clean_encSl clean_eS]) rfl rfl fun H => ?_
 refine B_ <| us 1 rfl <| A_ <| J_ <| B_ <| us 1 rfl <| wl rfl rfl rfl <| w (.bool (decide ((Sl.len a0) < 2))) rfl rfl <| w (.bool (decide ((Sl.len a0) < 2))) rfl rfl ?_
 refine O_ 4 (SH H [(0, (encSl eS a0)), (12, (.bool ((decide ((Sl.len a0) < 2)) || (decide ((Sl.len a0) > 20)))))]) ?_ ?_
 revert H
 cases hc1 : (decide ((Sl.len a0) < 2))
 intro H
 refine us 1 rfl <| L_ rfl rfl <| wl rfl rfl rfl <| us 2 rfl <| A_ ?_
 exact kf H
 intro H
 refine us 4 rfl <| A_ ?_
 exact kf H
 rintro σ S e ⟨hk, H, rfl⟩
 refine E_ hk <| w (.bool ((decide ((Sl.len a0) < 2)) || (decide ((Sl.len a0) > 20)))) rfl rfl ?_
 obtain ⟨y6, hy6, hOy6⟩ := bindS h
 refine O_ 4 (SJ [(0, (encSl eS a0)), (17, (.bool y6))] [] [] [] [] [] false) ?_ ?_
 replace h := hy6
 revert H
 cases hc8 : ((decide ((Sl.len a0) < 2)) || (decide ((Sl.len a0) > 20)))
 intro H
 replace h := iteF h hc8
 refine us 1 rfl <| L_ rfl rfl ?_
 obtain ⟨y7, hy7, h⟩ := bindS h
 refine w (.str y7) rfl (nz (fe rfl (fo rfl rfl)) (c_ (vs := [(encSl eS a0), (.str [])]) rfl rfl (evw_join rfl (W_ _ _) hy7 _))) <| us 2 rfl <| A_ ?_
 have h := oi h; subst h
 exact kh H
 intro H
 replace h := iteT h hc8
 refine us 4 rfl <| A_ ?_
 have h := oi h; subst h
 exact kh H
 rintro σ S e ⟨hk, H, rfl⟩
 replace h := hOy6
 refine E_ hk <| A_ ?_
 rcases iteS h with ⟨hc85, h⟩ | ⟨hc85, h⟩
 refine G_ rfl hc85 <| B_ <| us 1 rfl <| A_ <| R_ <| I_ ?_
 have h := oi h; subst h
 exact kr (.bool false) rfl rfl rfl
 refine H_ rfl hc85 <| N_ <| D_ <| J_ <| B_ <| us 1 rfl <| wl rfl rfl rfl <| us 1 rfl <| A_ ?_
 obtain ⟨y84, hy84, hOy84⟩ := bindS h
 refine P_ ?_
 refine l90_L0 ?_ ?_ hy84  kn (hs H)
 intro y84r he σ S  hk H; subst he; replace h := hOy84; dsimp only at h
 refine K_ hk <| M_ <| I_ ?_
 have h := oi h; subst h
 exact kr (.bool y84r) rfl rfl rfl
 intro y84b he σ S  hk H; subst he; replace h := hOy84; dsimp only at h
 refine K_ hk <| U_ <| D_ <| B_ <| us 1 rfl <| A_ <| R_ ?_
 have h := oi h; subst h
 exact kr (.bool true) rfl rfl rfl
def F68 : Nat → Api_Filter → Option Bool
 | 0, _ => none
 | k + 1, a0 =>
  if a0.Kind == 3 then
  if (Sl.len a0.Kids) != 1 then
  some false
  else
  Option.bind (if ((a0.Attr == []) && (a0.Value == [])) && ((Sl.len a0.Subs) == 0) then
  Option.bind (F87_88 k (F68 k) a0.Kids) fun y2295 =>
  some (!y2295)
  else
  some false) fun y2294 =>
  some y2294
  else
  Option.bind (if a0.Kind == 1 then
  some (a0.Kind == 1)
  else
  some (a0.Kind == 2)) fun y2300 =>
  if y2300 then
  Option.bind (if ((a0.Attr == []) && (a0.Value == [])) && ((Sl.len a0.Subs) == 0) then
  Option.bind (F87_88 k (F68 k) a0.Kids) fun y2310 =>
  some (!y2310)
  else
  some false) fun y2309 =>
  some y2309
  else
  if a0.Kind == 7 then
  Option.bind (F89 k a0.Attr) fun y2313 =>
  some (((y2313 && (a0.Value == [])) && ((Sl.len a0.Subs) == 0)) && ((Sl.len a0.Kids) == 0))
  else
  if a0.Kind == 8 then
  Option.bind (F89 k a0.Attr) fun y2318 =>
  Option.bind (if (y2318 && (a0.Value == [])) && ((Sl.len a0.Kids) == 0) then
  Option.bind (F90 k a0.Subs) fun y2326 =>
  some y2326
  else
  some false) fun y2325 =>
  some y2325
  else
  Option.bind (if a0.Kind == 4 then
  some (a0.Kind == 4)
  else
  Option.bind (if a0.Kind == 5 then
  some (a0.Kind == 5)
  else
  some (a0.Kind == 6)) fun y2341 =>
  some y2341) fun y2338 =>
  if y2338 then
  Option.bind (F89 k a0.Attr) fun y2345 =>
  some (((y2345 && (decide ((Str.len a0.Value) ≤ 60))) && ((Sl.len a0.Subs) == 0)) && ((Sl.len a0.Kids) == 0))
  else
  some false
theorem s68 : ∀ k : Nat, ∀ {a0 : Api_Filter} {r : Bool}, F68 k a0 = some r → Q 68 [(.agg (c_Api_Filter a0))] (.bool r) := by
 intro k
 induction k with
 | zero => intro _ r h; cases h
 | succ k ih =>
  intro a0 r h
  rw [F68] at h
  refine j_ (pf := fn68) rfl rfl (C_ rfl) (by simp [PV.clean, cleanL, clean_encSl clean_Api_Filter, clean_encSl clean_eS]) rfl rfl fun H => ?_
  refine B_ <| g_ rfl rfl rfl rfl rfl H ?_
  intro i1 S hi1 H
  refine us 1 rfl <| A_ <| J_ <| B_ <| us 1 rfl <| wg H 0 rfl rfl rfl rfl <| A_ <| P_ <| J_ <| P_ <| J_ <| P_ <| J_ <| P_ <| J_ <| P_ <| J_ <| P_ <| J_ <| J_ <| B_ <| us 2 rfl <| A_ ?_
  rcases iteS h with ⟨hc2353, h⟩ | ⟨hc2353, h⟩
  refine G_ rfl hc2353 <| a_ <| F_ <| F_ <| U_ <| D_ <| B_ <| us 1 rfl <| wg H 0 rfl rfl rfl rfl <| wl rfl rfl rfl <| us 1 rfl <| A_ ?_
  rcases iteS h with ⟨hc2297, h⟩ | ⟨hc2297, h⟩
  refine G_ rfl hc2297 <| B_ <| us 1 rfl <| A_ <| R_ <| M_ <| I_ <| M_ <| I_ <| M_ <| I_ <| M_ <| I_ <| M_ <| I_ ?_
  have h := oi h; subst h
  exact kr (.bool false) rfl rfl rfl
  refine H_ rfl hc2297 <| N_ <| Z_ <| D_ <| J_ <| B_ <| us 1 rfl <| wg H 0 rfl rfl rfl rfl <| w (.bool (a0.Attr == [])) rfl rfl <| w (.bool (a0.Attr == [])) rfl rfl ?_
  refine O_ 4 (SH H [(1, (.ptr i1 0)), (29, (.bool ((a0.Attr == []) && (a0.Value == []))))]) ?_ ?_
  revert H
  cases hc2288 : (a0.Attr == [])
  intro H
  refine us 4 rfl <| A_ ?_
  exact kf H
  intro H
  refine us 1 rfl <| L_ rfl rfl <| wg H 0 rfl rfl rfl rfl <| us 2 rfl <| A_ ?_
  exact kf H
  rintro σ S e ⟨hk, H, rfl⟩
  refine E_ hk <| w (.bool ((a0.Attr == []) && (a0.Value == []))) rfl rfl ?_
  refine O_ 5 (SH H [(1, (.ptr i1 0)), (35, (.bool (((a0.Attr == []) && (a0.Value == [])) && ((Sl.len a0.Subs) == 0))))]) ?_ ?_
  revert H
  cases hc2289 : ((a0.Attr == []) && (a0.Value == []))
  intro H
  refine us 5 rfl <| A_ ?_
  exact kf H
  intro H
  refine us 1 rfl <| L_ rfl rfl <| wg H 0 rfl rfl rfl rfl <| L_ rfl rfl <| wl rfl rfl rfl <| us 2 rfl <| A_ ?_
  exact kf H
  rintro σ S e ⟨hk, H, rfl⟩
  refine E_ hk <| w (.bool (((a0.Attr == []) && (a0.Value == [])) && ((Sl.len a0.Subs) == 0))) rfl rfl ?_
  obtain ⟨y2294, hy2294, hOy2294⟩ := bindS h
  refine O_ 5 (SJ [(41, (.bool y2294))] [] [] [(i1, .cells (c_Api_Filter a0))] [] [] false) ?_ ?_
  replace h := hy2294
  revert H
  cases hc2296 : (((a0.Attr == []) && (a0.Value == [])) && ((Sl.len a0.Subs) == 0))
  intro H
  replace h := iteF h hc2296
  refine us 5 rfl <| A_ ?_
  have h := oi h; subst h
  exact kh H
  intro H
  replace h := iteT h hc2296
  refine us 1 rfl <| L_ rfl rfl <| wg H 0 rfl rfl rfl rfl <| L_ rfl rfl ?_
  obtain ⟨y2295, hy2295, h⟩ := bindS h
  refine cl (.bool y2295) [(encSl e_Api_Filter a0.Kids), (.fn (.func 88) [] [])] rfl rfl rfl (fe rfl (fo rfl rfl)) (sv (s87_88 ih _ hy2295)) <| us 2 rfl <| A_ ?_
  have h := oi h; subst h
  exact kh H
  rintro σ S e ⟨hk, H, rfl⟩
  replace h := hOy2294
  refine E_ hk <| us 1 rfl <| A_ <| R_ <| I_ <| M_ <| I_ <| M_ <| I_ <| M_ <| I_ <| M_ <| I_ ?_
  have h := oi h; subst h
  exact kr (.bool y2294) rfl rfl rfl
  refine H_ rfl hc2353 <| N_ <| D_ <| J_ <| J_ <| B_ <| us 2 rfl <| A_ ?_
  obtain ⟨y2300, hy2300, hOy2300⟩ := bindS h
  refine f_ (SJ [(1, (.ptr i1 0)), (4, (.int .i64 a0.Kind)), (7, (.bool y2300))] [] [] [(i1, .cells (c_Api_Filter a0))] [] [] false) ?_ ?_
  replace h := hy2300
  rcases iteS h with ⟨hc2301, h⟩ | ⟨hc2301, h⟩
  refine G_ rfl hc2301 <| N_ <| D_ ?_
  have h := oi h; subst h
  exact kh H
  refine H_ rfl hc2301 <| V_ <| us 2 rfl <| A_ <| D_ ?_
  have h := oi h; subst h
  exact kh H
  rintro σ S e ⟨hk, H, rfl⟩
  replace h := hOy2300
  refine K_ hk <| D_ ?_
  rcases iteS h with ⟨hc2352, h⟩ | ⟨hc2352, h⟩
  refine G_ rfl hc2352 <| a_ <| F_ <| F_ <| S_ rfl <| F_ <| U_ <| D_ <| J_ <| B_ <| us 1 rfl <| wg H 0 rfl rfl rfl rfl <| w (.bool (a0.Attr == [])) rfl rfl <| w (.bool (a0.Attr == [])) rfl rfl ?_
  refine O_ 4 (SH H [(1, (.ptr i1 0)), (29, (.bool ((a0.Attr == []) && (a0.Value == []))))]) ?_ ?_
  revert H
  cases hc2303 : (a0.Attr == [])
  intro H
  refine us 4 rfl <| A_ ?_
  exact kf H
  intro H
  refine us 1 rfl <| L_ rfl rfl <| wg H 0 rfl rfl rfl rfl <| us 2 rfl <| A_ ?_
  exact kf H
  rintro σ S e ⟨hk, H, rfl⟩
  refine E_ hk <| w (.bool ((a0.Attr == []) && (a0.Value == []))) rfl rfl ?_
  refine O_ 5 (SH H [(1, (.ptr i1 0)), (35, (.bool (((a0.Attr == []) && (a0.Value == [])) && ((Sl.len a0.Subs) == 0))))]) ?_ ?_
  revert H
  cases hc2304 : ((a0.Attr == []) && (a0.Value == []))
  intro H
  refine us 5 rfl <| A_ ?_
  exact kf H
  intro H
  refine us 1 rfl <| L_ rfl rfl <| wg H 0 rfl rfl rfl rfl <| L_ rfl rfl <| wl rfl rfl rfl <| us 2 rfl <| A_ ?_
  exact kf H
  rintro σ S e ⟨hk, H, rfl⟩
  refine E_ hk <| w (.bool (((a0.Attr == []) && (a0.Value == [])) && ((Sl.len a0.Subs) == 0))) rfl rfl ?_
  obtain ⟨y2309, hy2309, hOy2309⟩ := bindS h
  refine O_ 5 (SJ [(41, (.bool y2309))] [] [] [(i1, .cells (c_Api_Filter a0))] [] [] false) ?_ ?_
  replace h := hy2309
  revert H
  cases hc2311 : (((a0.Attr == []) && (a0.Value == [])) && ((Sl.len a0.Subs) == 0))
  intro H
  replace h := iteF h hc2311
  refine us 5 rfl <| A_ ?_
  have h := oi h; subst h
  exact kh H
  intro H
  replace h := iteT h hc2311
  refine us 1 rfl <| L_ rfl rfl <| wg H 0 rfl rfl rfl rfl <| L_ rfl rfl ?_
  obtain ⟨y2310, hy2310, h⟩ := bindS h
  refine cl (.bool y2310) [(encSl e_Api_Filter a0.Kids), (.fn (.func 88) [] [])] rfl rfl rfl (fe rfl (fo rfl rfl)) (sv (s87_88 ih _ hy2310)) <| us 2 rfl <| A_ ?_
  have h := oi h; subst h
  exact kh H
  rintro σ S e ⟨hk, H, rfl⟩
  replace h := hOy2309
  refine E_ hk <| us 1 rfl <| A_ <| R_ <| I_ <| M_ <| I_ <| M_ <| I_ <| M_ <| I_ <| M_ <| I_ ?_
  have h := oi h; subst h
  exact kr (.bool y2309) rfl rfl rfl
  refine H_ rfl hc2352 <| N_ <| D_ <| J_ <| B_ <| us 2 rfl <| A_ ?_
  rcases iteS h with ⟨hc2351, h⟩ | ⟨hc2351, h⟩
  refine G_ rfl hc2351 <| a_ <| F_ <| F_ <| S_ rfl <| F_ <| S_ rfl <| F_ <| U_ <| D_ <| J_ <| B_ <| us 1 rfl <| wg H 0 rfl rfl rfl rfl ?_
  obtain ⟨y2313, hy2313, h⟩ := bindS h
  refine cl (.bool y2313) [(.str a0.Attr)] rfl rfl rfl rfl (s89 _ hy2313 rfl) <| us 1 rfl ?_
  refine O_ 4 (SH H [(1, (.ptr i1 0)), (49, (.bool (y2313 && (a0.Value == []))))]) ?_ ?_
  revert H
  cases hc2314 : y2313
  intro H
  refine us 4 rfl <| A_ ?_
  exact kf H
  intro H
  refine us 1 rfl <| L_ rfl rfl <| wg H 0 rfl rfl rfl rfl <| us 2 rfl <| A_ ?_
  exact kf H
  rintro σ S e ⟨hk, H, rfl⟩
  refine E_ hk <| w (.bool (y2313 && (a0.Value == []))) rfl rfl ?_
  refine O_ 5 (SH H [(1, (.ptr i1 0)), (55, (.bool ((y2313 && (a0.Value == [])) && ((Sl.len a0.Subs) == 0))))]) ?_ ?_
  revert H
  cases hc2315 : (y2313 && (a0.Value == []))
  intro H
  refine us 5 rfl <| A_ ?_
  exact kf H
  intro H
  refine us 1 rfl <| L_ rfl rfl <| wg H 0 rfl rfl rfl rfl <| L_ rfl rfl <| wl rfl rfl rfl <| us 2 rfl <| A_ ?_
  exact kf H
  rintro σ S e ⟨hk, H, rfl⟩
  refine E_ hk <| w (.bool ((y2313 && (a0.Value == [])) && ((Sl.len a0.Subs) == 0))) rfl rfl ?_
  refine O_ 5 (SH H [(61, (.bool (((y2313 && (a0.Value == [])) && ((Sl.len a0.Subs) == 0)) && ((Sl.len a0.Kids) == 0))))]) ?_ ?_
  revert H
  cases hc2316 : ((y2313 && (a0.Value == [])) && ((Sl.len a0.Subs) == 0))
  intro H
  refine us 5 rfl <| A_ ?_
  exact kf H
  intro H
  refine us 1 rfl <| L_ rfl rfl <| wg H 0 rfl rfl rfl rfl <| L_ rfl rfl <| wl rfl rfl rfl <| us 2 rfl <| A_ ?_
  exact kf H
  rintro σ S e ⟨hk, H, rfl⟩
  refine E_ hk <| us 1 rfl <| A_ <| R_ <| I_ <| M_ <| I_ <| M_ <| I_ <| M_ <| I_ ?_
  have h := oi h; subst h
  exact kr (.bool (((y2313 && (a0.Value == [])) && ((Sl.len a0.Subs) == 0)) && ((Sl.len a0.Kids) == 0))) rfl rfl rfl
  refine H_ rfl hc2351 <| N_ <| D_ <| J_ <| B_ <| us 2 rfl <| A_ ?_
  rcases iteS h with ⟨hc2350, h⟩ | ⟨hc2350, h⟩
  refine G_ rfl hc2350 <| a_ <| F_ <| F_ <| S_ rfl <| F_ <| S_ rfl <| F_ <| S_ rfl <| F_ <| U_ <| D_ <| J_ <| B_ <| us 1 rfl <| wg H 0 rfl rfl rfl rfl ?_
  obtain ⟨y2318, hy2318, h⟩ := bindS h
  refine cl (.bool y2318) [(.str a0.Attr)] rfl rfl rfl rfl (s89 _ hy2318 rfl) <| us 1 rfl ?_
  refine O_ 4 (SH H [(1, (.ptr i1 0)), (69, (.bool (y2318 && (a0.Value == []))))]) ?_ ?_
  revert H
  cases hc2319 : y2318
  intro H
  refine us 4 rfl <| A_ ?_
  exact kf H
  intro H
  refine us 1 rfl <| L_ rfl rfl <| wg H 0 rfl rfl rfl rfl <| us 2 rfl <| A_ ?_
  exact kf H
  rintro σ S e ⟨hk, H, rfl⟩
  refine E_ hk <| w (.bool (y2318 && (a0.Value == []))) rfl rfl ?_
  refine O_ 5 (SH H [(1, (.ptr i1 0)), (75, (.bool ((y2318 && (a0.Value == [])) && ((Sl.len a0.Kids) == 0))))]) ?_ ?_
  revert H
  cases hc2320 : (y2318 && (a0.Value == []))
  intro H
  refine us 5 rfl <| A_ ?_
  exact kf H
  intro H
  refine us 1 rfl <| L_ rfl rfl <| wg H 0 rfl rfl rfl rfl <| L_ rfl rfl <| wl rfl rfl rfl <| us 2 rfl <| A_ ?_
  exact kf H
  rintro σ S e ⟨hk, H, rfl⟩
  refine E_ hk <| w (.bool ((y2318 && (a0.Value == [])) && ((Sl.len a0.Kids) == 0))) rfl rfl ?_
  obtain ⟨y2325, hy2325, hOy2325⟩ := bindS h
  refine O_ 4 (SJ [(80, (.bool y2325))] [] [] [(i1, .cells (c_Api_Filter a0))] [] [] false) ?_ ?_
  replace h := hy2325
  revert H
  cases hc2327 : ((y2318 && (a0.Value == [])) && ((Sl.len a0.Kids) == 0))
  intro H
  replace h := iteF h hc2327
  refine us 4 rfl <| A_ ?_
  have h := oi h; subst h
  exact kh H
  intro H
  replace h := iteT h hc2327
  refine us 1 rfl <| L_ rfl rfl <| wg H 0 rfl rfl rfl rfl <| L_ rfl rfl ?_
  obtain ⟨y2326, hy2326, h⟩ := bindS h
  refine cl (.bool y2326) [(encSl eS a0.Subs)] rfl rfl rfl (fe rfl rfl) (sv (s90 _ hy2326)) <| us 1 rfl <| A_ ?_
  have h := oi h; subst h
  exact kh H
  rintro σ S e ⟨hk, H, rfl⟩
  replace h := hOy2325
  refine E_ hk <| us 1 rfl <| A_ <| R_ <| I_ <| M_ <| I_ <| M_ <| I_ ?_
  have h := oi h; subst h
  exact kr (.bool y2325) rfl rfl rfl
  refine H_ rfl hc2350 <| N_ <| D_ <| J_ <| B_ <| us 2 rfl <| A_ ?_
  obtain ⟨y2338, hy2338, hOy2338⟩ := bindS h
  refine f_ (SJ [(1, (.ptr i1 0)), (14, (.bool y2338))] [] [] [(i1, .cells (c_Api_Filter a0))] [] [] false) ?_ ?_
  replace h := hy2338
  rcases iteS h with ⟨hc2343, h⟩ | ⟨hc2343, h⟩
  refine G_ rfl hc2343 <| N_ <| D_ ?_
  have h := oi h; subst h
  exact kh H
  refine H_ rfl hc2343 <| B_ <| us 2 rfl <| A_ ?_
  obtain ⟨y2341, hy2341, hOy2341⟩ := bindS h
  refine f_ (SJ [(1, (.ptr i1 0)), (14, (.bool y2341))] [] [] [(i1, .cells (c_Api_Filter a0))] [] [] false) ?_ ?_
  replace h := hy2341
  rcases iteS h with ⟨hc2342, h⟩ | ⟨hc2342, h⟩
  refine G_ rfl hc2342 <| N_ <| D_ ?_
  have h := oi h; subst h
  exact kh H
  refine H_ rfl hc2342 <| V_ <| us 2 rfl <| A_ <| D_ ?_
  have h := oi h; subst h
  exact kh H
  rintro σ S e ⟨hk, H, rfl⟩
  replace h := hOy2341
  refine K_ hk <| D_ ?_
  have h := oi h; subst h
  exact kh H
  rintro σ S e ⟨hk, H, rfl⟩
  replace h := hOy2338
  refine K_ hk <| D_ ?_
  rcases iteS h with ⟨hc2349, h⟩ | ⟨hc2349, h⟩
  refine G_ rfl hc2349 <| a_ <| F_ <| S_ rfl <| F_ <| S_ rfl <| F_ <| S_ rfl <| F_ <| S_ rfl <| F_ <| U_ <| D_ <| J_ <| B_ <| us 1 rfl <| wg H 0 rfl rfl rfl rfl ?_
  obtain ⟨y2345, hy2345, h⟩ := bindS h
  refine cl (.bool y2345) [(.str a0.Attr)] rfl rfl rfl rfl (s89 _ hy2345 rfl) <| us 1 rfl ?_
  refine O_ 5 (SH H [(1, (.ptr i1 0)), (89, (.bool (y2345 && (decide ((Str.len a0.Value) ≤ 60)))))]) ?_ ?_
  revert H
  cases hc2346 : y2345
  intro H
  refine us 5 rfl <| A_ ?_
  exact kf H
  intro H
  refine us 1 rfl <| L_ rfl rfl <| wg H 0 rfl rfl rfl rfl <| us 3 rfl <| A_ ?_
  exact kf H
  rintro σ S e ⟨hk, H, rfl⟩
  refine E_ hk <| w (.bool (y2345 && (decide ((Str.len a0.Value) ≤ 60)))) rfl rfl ?_
  refine O_ 5 (SH H [(1, (.ptr i1 0)), (95, (.bool ((y2345 && (decide ((Str.len a0.Value) ≤ 60))) && ((Sl.len a0.Subs) == 0))))]) ?_ ?_
  revert H
  cases hc2347 : (y2345 && (decide ((Str.len a0.Value) ≤ 60)))
  intro H
  refine us 5 rfl <| A_ ?_
  exact kf H
  intro H
  refine us 1 rfl <| L_ rfl rfl <| wg H 0 rfl rfl rfl rfl <| L_ rfl rfl <| wl rfl rfl rfl <| us 2 rfl <| A_ ?_
  exact kf H
  rintro σ S e ⟨hk, H, rfl⟩
  refine E_ hk <| w (.bool ((y2345 && (decide ((Str.len a0.Value) ≤ 60))) && ((Sl.len a0.Subs) == 0))) rfl rfl ?_
  refine O_ 5 (SH H [(101, (.bool (((y2345 && (decide ((Str.len a0.Value) ≤ 60))) && ((Sl.len a0.Subs) == 0)) && ((Sl.len a0.Kids) == 0))))]) ?_ ?_
  revert H
  cases hc2348 : ((y2345 && (decide ((Str.len a0.Value) ≤ 60))) && ((Sl.len a0.Subs) == 0))
  intro H
  refine us 5 rfl <| A_ ?_
  exact kf H
  intro H
  refine us 1 rfl <| L_ rfl rfl <| wg H 0 rfl rfl rfl rfl <| L_ rfl rfl <| wl rfl rfl rfl <| us 2 rfl <| A_ ?_
  exact kf H
  rintro σ S e ⟨hk, H, rfl⟩
  refine E_ hk <| us 1 rfl <| A_ <| R_ <| I_ <| M_ <| I_ ?_
  have h := oi h; subst h
  exact kr (.bool (((y2345 && (decide ((Str.len a0.Value) ≤ 60))) && ((Sl.len a0.Subs) == 0)) && ((Sl.len a0.Kids) == 0))) rfl rfl rfl
  refine H_ rfl hc2349 <| N_ <| D_ <| a_ <| S_ rfl <| F_ <| S_ rfl <| F_ <| S_ rfl <| F_ <| S_ rfl <| F_ <| S_ rfl <| F_ <| U_ <| D_ <| B_ <| us 1 rfl <| A_ <| R_ ?_
  have h := oi h; subst h
  exact kr (.bool false) rfl rfl rfl
def F32 (k : Nat) (a0 : Api_Filter) : Option Bool :=
 Option.bind (F67 k a0) fun y2 =>
 Option.bind (if decide (y2 ≤ 20) then
 Option.bind (F68 k a0) fun y8 =>
 some y8
 else
 some false) fun y7 =>
 some y7
theorem s32 : ∀ k : Nat, ∀ {a0 : Api_Filter} {r : Bool}, F32 k a0 = some r → Q 32 [(.agg (c_Api_Filter a0))] (.bool r) := by
 intro k a0 r h
 unfold F32 at h
 refine j_ (pf := fn32) rfl rfl (C_ rfl) (by simp [PV.clean, cleanL, clean_encSl clean_Api_Filter, clean_encSl clean_eS]) rfl rfl fun H => ?_
 refine B_ <| g_ rfl rfl rfl rfl rfl H ?_
 intro i1 S hi1 H
 refine us 1 rfl <| A_ <| B_ <| wg H 0 rfl rfl rfl rfl ?_
 obtain ⟨y2, hy2, h⟩ := bindS h
 refine cl (.int .i64 y2) [(.agg (c_Api_Filter a0))] rfl rfl rfl rfl (sv (s67 _ hy2)) <| w (.bool (decide (y2 ≤ 20))) rfl rfl <| w (.bool (decide (y2 ≤ 20))) rfl rfl ?_
 obtain ⟨y7, hy7, hOy7⟩ := bindS h
 refine O_ 3 (SJ [(9, (.bool y7))] [] [] [(i1, .cells (c_Api_Filter a0))] [] [] false) ?_ ?_
 replace h := hy7
 revert H
 cases hc9 : (decide (y2 ≤ 20))
 intro H
 replace h := iteF h hc9
 refine us 3 rfl <| A_ ?_
 have h := oi h; subst h
 exact kh H
 intro H
 replace h := iteT h hc9
 refine L_ rfl rfl <| wg H 0 rfl rfl rfl rfl <| L_ rfl rfl ?_
 obtain ⟨y8, hy8, h⟩ := bindS h
 refine cl (.bool y8) [(.agg (c_Api_Filter a0))] rfl rfl rfl rfl (sv (s68 _ hy8)) <| us 1 rfl <| A_ ?_
 have h := oi h; subst h
 exact kh H
 rintro σ S e ⟨hk, H, rfl⟩
 replace h := hOy7
 refine E_ hk <| us 1 rfl <| A_ <| R_ ?_
 have h := oi h; subst h
 exact kr (.bool y7) rfl rfl rfl
def F33_L0 (k : Nat) (a108 : Sl Api_Mod) (a109 : Int) (a110 : Int) : Nat → Int → Option (Out Bool Int)
 | 0, _ => none
 | n + 1, x111 =>
  if decide (x111 < a110) then
  Option.bind (Sl.at? a108 x111) fun y137 =>
  Option.bind (if (decide (y137.Kind < 1)) || (decide (y137.Kind > a109)) then
  some true
  else
  Option.bind (F31 k (some [y137.Attr])) fun y149 =>
  some (!y149)) fun y147 =>
  Option.bind (if y147 || (decide ((Sl.len y137.Values) > 12)) then
  some true
  else
  Option.bind (F31 k y137.Values) fun y157 =>
  some (!y157)) fun y156 =>
  if y156 then
  some (Out.ret false)
  else
  F33_L0 k a108 a109 a110 n (ad .i64 x111 1)
  else
  some (Out.brk x111)
def F33 (k : Nat) (a0 : Sl Api_Mod) (a1 : Int) : Option Bool :=
 Option.bind (F33_L0 k a0 a1 (Sl.len a0) k 0) fun y162 =>
 match y162 with
 | .ret y162r => some y162r
 | .brk y162b =>
 some (decide ((Sl.len a0) ≤ 12))
theorem l33_L0 {k : Nat} {a108 : Sl Api_Mod} {a109 : Int} {a110 : Int} {S0 : List SObj} {R : List Nat} {K : KX}  {o : Out Bool Int}
  (hret : ∀ r : Bool, o = .ret r → EK [(4, (.bool r))] S0 R [] [] [] (K .ret))
  (hbrk : ∀ y : Int, o = .brk y → EK [(0, (encSl e_Api_Mod a108))] S0 R [] [] [] (K (.exit 0))) :
  ∀ {n : Nat} {x111 : Int}, F33_L0 k a108 a109 a110 n x111 = some o → ∀ {σ : Nat → PV} {S : List SObj}, Known [(0, (encSl e_Api_Mod a108)), (1, (.int .i64 a109)), (7, (encSl e_Api_Mod a108)), (8, (.int .i64 a110)), (9, (.int .i64 x111))] σ → Hp S0 R S [] [] [] → WC env ⟨45, S0.length⟩ (.loop pc33L0) σ S false K := by
 intro n
 induction n with
 | zero => intro _ h; cases h
 | succ n ih =>
  intro x111 h σ S  hk H
  rw [F33_L0] at h
  refine h_ <| b_ hk <| B_ <| us 1 rfl <| A_ <| J_ ?_
  rcases iteS h with ⟨hc161, h⟩ | ⟨hc161, h⟩
  refine G_ rfl hc161 <| N_ <| D_ <| J_ <| P_ <| B_ ?_
  obtain ⟨y137, hy137, h⟩ := bindS h
  refine w (.iptr (c_Api_Mod y137) 0) rfl (nz rfl (X_ rfl (W_ _ _) rfl rfl rfl hy137 (e_Api_Mod_cells _) rfl)) <| us 1 rfl <| d_ (ti := ty45) rfl rfl rfl rfl H ?_
  intro i138 S hi138 H
  refine wos 0 H hi138 rfl rfl rfl rfl rfl rfl rfl rfl rfl rfl ?_
  intro S H
  replace H : Hp S0 R _ [(i138, .cells (c_Api_Mod y137))] [] [] := H
  refine A_ <| B_ <| us 1 rfl <| wg H 0 rfl rfl rfl rfl <| w (.bool (decide (y137.Kind < 1))) rfl rfl <| w (.bool (decide (y137.Kind < 1))) rfl rfl ?_
  refine O_ 5 (SH H [(0, (encSl e_Api_Mod a108)), (1, (.int .i64 a109)), (6, (.ptr i138 0)), (7, (encSl e_Api_Mod a108)), (8, (.int .i64 a110)), (9, (.int .i64 x111)), (21, (.bool ((decide (y137.Kind < 1)) || (decide (y137.Kind > a109)))))]) ?_ ?_
  revert H
  cases hc139 : (decide (y137.Kind < 1))
  intro H
  refine us 1 rfl <| L_ rfl rfl <| wg H 0 rfl rfl rfl rfl <| us 3 rfl <| A_ ?_
  exact kf H
  intro H
  refine us 5 rfl <| A_ ?_
  exact kf H
  rintro σ S e ⟨hk, H, rfl⟩
  refine E_ hk <| w (.bool ((decide (y137.Kind < 1)) || (decide (y137.Kind > a109)))) rfl rfl ?_
  obtain ⟨y147, hy147, hOy147⟩ := bindS h
  refine O_ 6 (SJ [(0, (encSl e_Api_Mod a108)), (1, (.int .i64 a109)), (6, (.ptr i138 0)), (7, (encSl e_Api_Mod a108)), (8, (.int .i64 a110)), (9, (.int .i64 x111)), (28, (.bool y147))] S0 R [(i138, .cells (c_Api_Mod y137))] [] [] false) ?_ ?_
  replace h := hy147
  revert H
  cases hc150 : ((decide (y137.Kind < 1)) || (decide (y137.Kind > a109)))
  intro H
  replace h := iteF h hc150
  refine us 1 rfl <| L_ rfl rfl <| wg H 0 rfl rfl rfl rfl <| L_ rfl rfl <| WS rfl (nz rfl (stp_buildSlice (ys := [y137.Attr]) (f := eS) (parts := [(0, (.str y137.Attr))]) rfl rfl rfl rfl rfl rfl (fc ⟨rfl, rfl⟩ (fun p hp => nomatch hp)) rfl)) ?_
  have hv148 : IsSl eS (some [y137.Attr]) _ := ⟨.full, rfl⟩
  refine L_ rfl rfl ?_
  obtain ⟨y149, hy149, h⟩ := bindS h
  refine cl (.bool y149) [(.lst (List.map eS [y137.Attr]) .full)] rfl rfl rfl (fz_tmp' hv148.frz rfl) (s31 _ hy149 (by simp only [hv148.strip, st_lst, encSl_some, eI, eB, eS, List.map_cons, List.map_nil, tupled])) <| us 2 rfl <| A_ ?_
  have h := oi h; subst h
  exact kh H
  intro H
  replace h := iteT h hc150
  refine us 6 rfl <| A_ ?_
  have h := oi h; subst h
  exact kh H
  rintro σ S e ⟨hk, H, rfl⟩
  replace h := hOy147
  refine E_ hk <| us 1 rfl ?_
  refine O_ 5 (SH H [(0, (encSl e_Api_Mod a108)), (1, (.int .i64 a109)), (6, (.ptr i138 0)), (7, (encSl e_Api_Mod a108)), (8, (.int .i64 a110)), (9, (.int .i64 x111)), (34, (.bool (y147 || (decide ((Sl.len y137.Values) > 12)))))]) ?_ ?_
  revert H
  cases hc151 : y147
  intro H
  refine us 1 rfl <| L_ rfl rfl <| wg H 0 rfl rfl rfl rfl <| L_ rfl rfl <| wl rfl rfl rfl <| us 2 rfl <| A_ ?_
  exact kf H
  intro H
  refine us 5 rfl <| A_ ?_
  exact kf H
  rintro σ S e ⟨hk, H, rfl⟩
  refine E_ hk <| w (.bool (y147 || (decide ((Sl.len y137.Values) > 12)))) rfl rfl ?_
  obtain ⟨y156, hy156, hOy156⟩ := bindS h
  refine O_ 5 (SJ [(0, (encSl e_Api_Mod a108)), (1, (.int .i64 a109)), (7, (encSl e_Api_Mod a108)), (8, (.int .i64 a110)), (9, (.int .i64 x111)), (40, (.bool y156))] S0 R [(i138, .cells (c_Api_Mod y137))] [] [] false) ?_ ?_
  replace h := hy156
  revert H
  cases hc158 : (y147 || (decide ((Sl.len y137.Values) > 12)))
  intro H
  replace h := iteF h hc158
  refine us 1 rfl <| L_ rfl rfl <| wg H 0 rfl rfl rfl rfl <| L_ rfl rfl ?_
  obtain ⟨y157, hy157, h⟩ := bindS h
  refine cl (.bool y157) [(encSl eS y137.Values)] rfl rfl rfl (fe rfl rfl) (sv (s31 _ hy157)) <| us 2 rfl <| A_ ?_
  have h := oi h; subst h
  exact kh H
  intro H
  replace h := iteT h hc158
  refine us 5 rfl <| A_ ?_
  have h := oi h; subst h
  exact kh H
  rintro σ S e ⟨hk, H, rfl⟩
  replace h := hOy156
  refine E_ hk <| A_ ?_
  rcases iteS h with ⟨hc160, h⟩ | ⟨hc160, h⟩
  refine G_ rfl hc160 <| B_ <| us 1 rfl <| A_ <| R_ <| M_ <| I_ <| I_ ?_
  have h := oi h; subst h
  exact hret _ rfl kn (H.sub (.cons _ .slnil) .slnil .slnil)
  refine H_ rfl hc160 <| N_ <| Z_ <| D_ <| V_ <| us 2 rfl <| A_ <| D_ ?_
  exact ih h  kn (H.sub (.cons _ .slnil) .slnil .slnil)
  refine H_ rfl hc161 <| a_ <| F_ <| F_ ?_
  have h := oi h; subst h
  exact hbrk _ rfl  kn (hs H)
theorem s33 : ∀ k : Nat, ∀ {a0 : Sl Api_Mod} {a1 : Int} {r : Bool}, F33 k a0 a1 = some r → Q 33 [(encSl e_Api_Mod a0), (.int .i64 a1)] (.bool r) := by
 intro k a0 a1 r h
 unfold F33 at h
 refine j_ (pf := fn33) rfl rfl (C_ rfl) (by simp [PV.clean, cleanL, clean_encSl clean_Api_Mod]) rfl rfl fun H => ?_
 refine B_ <| us 1 rfl <| A_ <| J_ <| B_ <| us 1 rfl <| wl rfl rfl rfl <| us 1 rfl <| A_ ?_
 obtain ⟨y162, hy162, hOy162⟩ := bindS h
 refine P_ ?_
 refine l33_L0 ?_ ?_ hy162  kn (hs H)
 intro y162r he σ S  hk H; subst he; replace h := hOy162; dsimp only at h
 refine K_ hk <| M_ <| I_ ?_
 have h := oi h; subst h
 exact kr (.bool y162r) rfl rfl rfl
 intro y162b he σ S  hk H; subst he; replace h := hOy162; dsimp only at h
 refine K_ hk <| U_ <| D_ <| B_ <| us 1 rfl <| wl rfl rfl rfl <| us 2 rfl <| A_ <| R_ ?_
 have h := oi h; subst h
 exact kr (.bool (decide ((Sl.len a0) ≤ 12))) rfl rfl rfl
def F18 (k : Nat) (a0 : Int) (a1 : Int) : Option Int :=
 if a0 == 9 then
 if (decide (a1 < 0)) || (decide (a1 > 8)) then
 some 0
 else
 Option.bind (Sl.at? (some [0, 97, 0, 101, 103, 105, 107, 109, 111]) a1) fun y8 =>
 some y8
 else
 Option.bind (Sl.at? (some [0, 96, 66, 99, 102, 104, 74, 108, 110, 0, 100]) a0) fun y10 =>
 some y10
theorem s18 : ∀ k : Nat, ∀ {a0 : Int} {a1 : Int} {r : Int}, F18 k a0 a1 = some r → Q 18 [(.int .i64 a0), (.int .i64 a1)] (.int .u8 r) := by
 intro k a0 a1 r h
 unfold F18 at h
 refine j_ (pf := fn18) rfl rfl (C_ rfl) rfl rfl rfl fun H => ?_
 refine B_ <| us 1 rfl <| A_ <| J_ <| B_ <| us 2 rfl <| A_ ?_
 rcases iteS h with ⟨hc11, h⟩ | ⟨hc11, h⟩
 refine G_ rfl hc11 <| J_ <| B_ <| us 1 rfl <| w (.bool (decide (a1 < 0))) rfl rfl <| w (.bool (decide (a1 < 0))) rfl rfl ?_
 refine O_ 3 (SH H [(1, (.int .i64 a1)), (12, (.bool ((decide (a1 < 0)) || (decide (a1 > 8)))))]) ?_ ?_
 revert H
 cases hc6 : (decide (a1 < 0))
 intro H
 refine us 3 rfl <| A_ ?_
 exact kf H
 intro H
 refine us 3 rfl <| A_ ?_
 exact kf H
 rintro σ S e ⟨hk, H, rfl⟩
 refine E_ hk <| A_ ?_
 rcases iteS h with ⟨hc9, h⟩ | ⟨hc9, h⟩
 refine G_ rfl hc9 <| B_ <| us 1 rfl <| A_ <| R_ <| I_ <| I_ ?_
 have h := oi h; subst h
 exact kr (.int .u8 0) rfl rfl rfl
 refine H_ rfl hc9 <| N_ <| D_ <| B_ <| w (.agg z13_) rfl (nz rfl (stp_buildArr (ti := ty80) (ei := ty5) rfl rfl rfl rfl rfl (fill_cons (cells' := z25_) rfl rfl rfl rfl (C_ rfl) rfl (fill_cons (cells' := z23_) rfl rfl rfl rfl (C_ rfl) rfl (fill_cons (cells' := z21_) rfl rfl rfl rfl (C_ rfl) rfl (fill_cons (cells' := z19_) rfl rfl rfl rfl (C_ rfl) rfl (fill_cons (cells' := z17_) rfl rfl rfl rfl (C_ rfl) rfl (fill_cons (cells' := z15_) rfl rfl rfl rfl (C_ rfl) rfl (fill_cons (cells' := z13_) rfl rfl rfl rfl (C_ rfl) rfl rfl))))))))) <| us 1 rfl ?_
 obtain ⟨y8, hy8, h⟩ := bindS h
 refine w (.int .u8 y8) rfl (nz rfl (stp_idxAgg (f := (eI .u8)) (xs := [0, 97, 0, 101, 103, 105, 107, 109, 111]) rfl rfl rfl rfl rfl hy8)) <| us 1 rfl <| A_ <| R_ <| I_ ?_
 have h := oi h; subst h
 exact kr (.int .u8 y8) rfl rfl rfl
 refine H_ rfl hc11 <| N_ <| D_ <| B_ <| w (.agg z2_) rfl (nz rfl (stp_buildArr (ti := ty81) (ei := ty5) rfl rfl rfl rfl rfl (fill_cons (cells' := [(.int .u8 0), (.int .u8 96), (.int .u8 0), (.int .u8 0), (.int .u8 0), (.int .u8 0), (.int .u8 0), (.int .u8 0), (.int .u8 0), (.int .u8 0), (.int .u8 0)]) rfl rfl rfl rfl (C_ rfl) rfl (fill_cons (cells' := [(.int .u8 0), (.int .u8 96), (.int .u8 66), (.int .u8 0), (.int .u8 0), (.int .u8 0), (.int .u8 0), (.int .u8 0), (.int .u8 0), (.int .u8 0), (.int .u8 0)]) rfl rfl rfl rfl (C_ rfl) rfl (fill_cons (cells' := [(.int .u8 0), (.int .u8 96), (.int .u8 66), (.int .u8 99), (.int .u8 0), (.int .u8 0), (.int .u8 0), (.int .u8 0), (.int .u8 0), (.int .u8 0), (.int .u8 0)]) rfl rfl rfl rfl (C_ rfl) rfl (fill_cons (cells' := [(.int .u8 0), (.int .u8 96), (.int .u8 66), (.int .u8 99), (.int .u8 102), (.int .u8 0), (.int .u8 0), (.int .u8 0), (.int .u8 0), (.int .u8 0), (.int .u8 0)]) rfl rfl rfl rfl (C_ rfl) rfl (fill_cons (cells' := [(.int .u8 0), (.int .u8 96), (.int .u8 66), (.int .u8 99), (.int .u8 102), (.int .u8 104), (.int .u8 0), (.int .u8 0), (.int .u8 0), (.int .u8 0), (.int .u8 0)]) rfl rfl rfl rfl (C_ rfl) rfl (fill_cons (cells' := [(.int .u8 0), (.int .u8 96), (.int .u8 66), (.int .u8 99), (.int .u8 102), (.int .u8 104), (.int .u8 74), (.int .u8 0), (.int .u8 0), (.int .u8 0), (.int .u8 0)]) rfl rfl rfl rfl (C_ rfl) rfl (fill_cons (cells' := [(.int .u8 0), (.int .u8 96), (.int .u8 66), (.int .u8 99), (.int .u8 102), (.int .u8 104), (.int .u8 74), (.int .u8 108), (.int .u8 0), (.int .u8 0), (.int .u8 0)]) rfl rfl rfl rfl (C_ rfl) rfl (fill_cons (cells' := [(.int .u8 0), (.int .u8 96), (.int .u8 66), (.int .u8 99), (.int .u8 102), (.int .u8 104), (.int .u8 74), (.int .u8 108), (.int .u8 110), (.int .u8 0), (.int .u8 0)]) rfl rfl rfl rfl (C_ rfl) rfl (fill_cons (cells' := z2_) rfl rfl rfl rfl (C_ rfl) rfl rfl))))))))))) <| us 1 rfl ?_
 obtain ⟨y10, hy10, h⟩ := bindS h
 refine w (.int .u8 y10) rfl (nz rfl (stp_idxAgg (f := (eI .u8)) (xs := [0, 96, 66, 99, 102, 104, 74, 108, 110, 0, 100]) rfl rfl rfl rfl rfl hy10)) <| us 1 rfl <| A_ <| R_ ?_
 have h := oi h; subst h
 exact kr (.int .u8 y10) rfl rfl rfl
def F11 (k : Nat) (a0 : Api_Msg) : Option Bool :=
 Option.bind (if (decide (a0.ID < 0)) || (decide (a0.ID > 2147483647)) then
 some true
 else
 Option.bind (F30 k a0) fun y11 =>
 Option.bind (F13 k a0 y11) fun y12 =>
 some (!y12)) fun y10 =>
 Option.bind (if y10 then
 some true
 else
 Option.bind (F31 k (some [a0.DN, a0.Pass, a0.RDN, a0.Sup, a0.Attr, a0.Value, a0.Matched])) fun y19 =>
 some (!y19)) fun y17 =>
 if y17 then
 some false
 else
 if a0.Op == 1 then
 some ((decide (a0.Version ≥ 1)) && (decide (a0.Version ≤ 127)))
 else
 if a0.Op == 3 then
 Option.bind (if (((decide (a0.Scope ≥ 0)) && (decide (a0.Scope ≤ 2))) && (decide (a0.Size ≥ 0))) && (decide (a0.Size ≤ 2147483647)) then
 Option.bind (F32 k a0.Filter) fun y534 =>
 some y534
 else
 some false) fun y533 =>
 Option.bind (if y533 && (decide ((Sl.len a0.Wants) ≤ 12)) then
 Option.bind (F31 k a0.Wants) fun y542 =>
 some y542
 else
 some false) fun y541 =>
 some y541
 else
 if a0.Op == 4 then
 Option.bind (F33 k a0.Mods 3) fun y570 =>
 some y570
 else
 Option.bind (if a0.Op == 5 then
 some (a0.Op == 5)
 else
 some (a0.Op == 10)) fun y573 =>
 if y573 then
 Option.bind (F33 k a0.Mods 1) fun y585 =>
 some y585
 else
 if a0.Op == 9 then
 Option.bind (F18 k 9 a0.Of) fun y590 =>
 some (((y590 != 0) && (decide (a0.Code ≥ 0))) && (decide (a0.Code ≤ 127)))
 else
 some ((decide (a0.Op ≥ 1)) && (decide (a0.Op ≤ 10)))
theorem s11 : ∀ k : Nat, ∀ {a0 : Api_Msg} {r : Bool}, F11 k a0 = some r → Q 11 [(.agg (c_Api_Msg a0))] (.bool r) := by
 intro k a0 r h
 unfold F11 at h
 refine j_ (pf := fn11) rfl rfl (C_ rfl) (by simp [PV.clean, cleanL, clean_encSl clean_Api_Filter, clean_encSl clean_Api_Mod, clean_encSl clean_eS]) rfl rfl fun H => ?_
 refine B_ <| g_ rfl rfl rfl rfl rfl H ?_
 intro i1 S hi1 H
 refine us 1 rfl <| A_ <| J_ <| J_ <| o_ <| wh (.ptr i1 0) rfl rfl <| T_ (v := .int .i64 a0.ID) rfl (nz rfl (stp_load rfl (H.get 0 rfl) rfl)) rfl rfl <| T_ (v := (.bool (decide (a0.ID < 0)))) rfl (nz rfl rfl) rfl rfl <| T_ (v := (.bool (decide (a0.ID < 0)))) rfl (nz rfl rfl) rfl rfl ?_
 refine WH.split 4 (fun σ' => Known ([(1, (.ptr i1 0)), (10, (.bool ((decide (a0.ID < 0)) || (decide (a0.ID > 2147483647)))))]) σ') ?_ ?_
 revert H
 cases hc2 : (decide (a0.ID < 0))
 intro H
 refine i_ rfl rfl <| wh (.ptr i1 0) rfl rfl <| i_ rfl rfl <| T_ (v := .int .i64 a0.ID) rfl (nz rfl (stp_load rfl (H.get 0 rfl) rfl)) rfl rfl <| i_ rfl rfl <| T_ (v := (.bool (decide (a0.ID > 2147483647)))) rfl (nz rfl rfl) rfl rfl <| T_ (v := (.bool (decide (a0.ID > 2147483647)))) rfl (nz rfl rfl) rfl rfl <| m_ ?_
 exact kn
 intro H
 refine k_ rfl rfl rfl <| k_ rfl rfl rfl <| k_ rfl rfl rfl <| wh (.bool true) rfl rfl <| m_ ?_
 exact kn
 intro σ hk
 refine WH.of_known hk <| T_ (v := (.bool ((decide (a0.ID < 0)) || (decide (a0.ID > 2147483647))))) rfl (nz rfl rfl) rfl rfl ?_
 obtain ⟨y10, hy10, hOy10⟩ := bindS h
 refine WH.split 6 (fun σ' => Known ([(1, (.ptr i1 0)), (17, (.bool y10))]) σ') ?_ ?_
 replace h := hy10
 revert H
 cases hc13 : ((decide (a0.ID < 0)) || (decide (a0.ID > 2147483647)))
 intro H
 replace h := iteF h hc13
 refine i_ rfl rfl <| T_ (v := (.agg (c_Api_Msg a0))) rfl (nz rfl (stp_load rfl (H.get 0 rfl) rfl)) rfl rfl <| i_ rfl rfl <| T_ (v := (.agg (c_Api_Msg a0))) rfl (nz rfl (stp_load rfl (H.get 0 rfl) rfl)) rfl rfl <| i_ rfl rfl ?_
 obtain ⟨y11, hy11, h⟩ := bindS h
 refine T_ (v := (.agg (c_Api_Msg y11))) rfl (nz rfl (c_ (vs := [(.agg (c_Api_Msg a0))]) rfl rfl (s30 _ hy11 (by simp only [st_agg, List.map_cons, List.map_nil, st1_int, st1_str, strip1_enc, st1_bool, tupled, e_Api_Msg]) _))) rfl rfl <| i_ rfl rfl ?_
 obtain ⟨y12, hy12, h⟩ := bindS h
 refine T_ (v := .bool y12) rfl (nz rfl (c_ (vs := [(.agg (c_Api_Msg a0)), (.agg (c_Api_Msg y11))]) rfl rfl (s13 _ hy12 (by simp only [st_agg, List.map_cons, List.map_nil, st1_int, st1_str, strip1_enc, st1_bool, tupled, e_Api_Msg]) _))) rfl rfl <| i_ rfl rfl <| wh (.bool (!y12)) rfl rfl <| wh (.bool (!y12)) rfl rfl <| m_ ?_
 have h := oi h; subst h
 exact kn
 intro H
 replace h := iteT h hc13
 refine k_ rfl rfl rfl <| k_ rfl rfl rfl <| k_ rfl rfl rfl <| k_ rfl rfl rfl <| k_ rfl rfl rfl <| wh (.bool true) rfl rfl <| m_ ?_
 have h := oi h; subst h
 exact kn
 rintro σ hk
 replace h := hOy10
 refine WH.of_known hk <| wh (.bool y10) rfl rfl ?_
 obtain ⟨y17, hy17, hOy17⟩ := bindS h
 refine WD.split 4 (SJ [(1, (.ptr i1 0)), (36, (.bool y17))] [] [] [(i1, .cells (c_Api_Msg a0))] [] [] false) ?_ ?_
 replace h := hy17
 revert H
 cases hc20 : y10
 intro H
 replace h := iteF h hc20
 refine i_ rfl rfl <| wh (.ptr i1 3) rfl rfl <| i_ rfl rfl <| T_ (v := .str a0.DN) rfl (nz rfl (stp_load rfl (H.get 0 rfl) rfl)) rfl rfl <| i_ rfl rfl <| wh (.ptr i1 5) rfl rfl <| i_ rfl rfl <| T_ (v := .str a0.Pass) rfl (nz rfl (stp_load rfl (H.get 0 rfl) rfl)) rfl rfl <| i_ rfl rfl <| wh (.ptr i1 15) rfl rfl <| i_ rfl rfl <| T_ (v := .str a0.RDN) rfl (nz rfl (stp_load rfl (H.get 0 rfl) rfl)) rfl rfl <| i_ rfl rfl <| wh (.ptr i1 18) rfl rfl <| i_ rfl rfl <| T_ (v := .str a0.Sup) rfl (nz rfl (stp_load rfl (H.get 0 rfl) rfl)) rfl rfl <| i_ rfl rfl <| wh (.ptr i1 19) rfl rfl <| i_ rfl rfl <| T_ (v := .str a0.Attr) rfl (nz rfl (stp_load rfl (H.get 0 rfl) rfl)) rfl rfl <| i_ rfl rfl <| wh (.ptr i1 20) rfl rfl <| i_ rfl rfl <| T_ (v := .str a0.Value) rfl (nz rfl (stp_load rfl (H.get 0 rfl) rfl)) rfl rfl <| i_ rfl rfl <| wh (.ptr i1 22) rfl rfl <| i_ rfl rfl <| T_ (v := .str a0.Matched) rfl (nz rfl (stp_load rfl (H.get 0 rfl) rfl)) rfl rfl <| m_ <| L_ rfl rfl <| WS rfl (nz rfl (stp_buildSlice (ys := [a0.DN, a0.Pass, a0.RDN, a0.Sup, a0.Attr, a0.Value, a0.Matched]) (f := eS) (parts := [(0, (.str a0.DN)), (1, (.str a0.Pass)), (2, (.str a0.RDN)), (3, (.str a0.Sup)), (4, (.str a0.Attr)), (5, (.str a0.Value)), (6, (.str a0.Matched))]) rfl rfl rfl rfl rfl rfl (fc ⟨rfl, rfl⟩ (fc ⟨rfl, rfl⟩ (fc ⟨rfl, rfl⟩ (fc ⟨rfl, rfl⟩ (fc ⟨rfl, rfl⟩ (fc ⟨rfl, rfl⟩ (fc ⟨rfl, rfl⟩ (fun p hp => nomatch hp)))))))) rfl)) ?_
 have hv18 : IsSl eS (some [a0.DN, a0.Pass, a0.RDN, a0.Sup, a0.Attr, a0.Value, a0.Matched]) _ := ⟨.full, rfl⟩
 refine L_ rfl rfl ?_
 obtain ⟨y19, hy19, h⟩ := bindS h
 refine cl (.bool y19) [(.lst (List.map eS [a0.DN, a0.Pass, a0.RDN, a0.Sup, a0.Attr, a0.Value, a0.Matched]) .full)] rfl rfl rfl (fz_tmp' hv18.frz rfl) (s31 _ hy19 (by simp only [hv18.strip, st_lst, encSl_some, eI, eB, eS, List.map_cons, List.map_nil, tupled])) <| us 2 rfl <| A_ ?_
 have h := oi h; subst h
 exact kh H
 intro H
 replace h := iteT h hc20
 refine k_ rfl rfl rfl <| k_ rfl rfl rfl <| k_ rfl rfl rfl <| k_ rfl rfl rfl <| k_ rfl rfl rfl <| k_ rfl rfl rfl <| k_ rfl rfl rfl <| k_ rfl rfl rfl <| k_ rfl rfl rfl <| k_ rfl rfl rfl <| k_ rfl rfl rfl <| k_ rfl rfl rfl <| k_ rfl rfl rfl <| k_ rfl rfl rfl <| m_ <| us 4 rfl <| A_ ?_
 have h := oi h; subst h
 exact kh H
 rintro σ S e ⟨hk, H, rfl⟩
 replace h := hOy17
 refine E_ hk <| A_ <| D_ ?_
 rcases iteS h with ⟨hc599, h⟩ | ⟨hc599, h⟩
 refine G_ rfl hc599 <| B_ <| us 1 rfl <| A_ <| R_ <| I_ ?_
 have h := oi h; subst h
 exact kr (.bool false) rfl rfl rfl
 refine H_ rfl hc599 <| N_ <| D_ <| J_ <| B_ <| us 1 rfl <| wg H 0 rfl rfl rfl rfl <| A_ <| P_ <| B_ <| us 2 rfl <| A_ ?_
 rcases iteS h with ⟨hc598, h⟩ | ⟨hc598, h⟩
 refine G_ rfl hc598 <| B_ <| us 1 rfl <| wg H 0 rfl rfl rfl rfl <| w (.bool (decide (a0.Version ≥ 1))) rfl rfl <| w (.bool (decide (a0.Version ≥ 1))) rfl rfl ?_
 refine O_ 4 (SH H [(48, (.bool ((decide (a0.Version ≥ 1)) && (decide (a0.Version ≤ 127)))))]) ?_ ?_
 revert H
 cases hc454 : (decide (a0.Version ≥ 1))
 intro H
 refine us 4 rfl <| A_ ?_
 exact kf H
 intro H
 refine us 1 rfl <| L_ rfl rfl <| wg H 0 rfl rfl rfl rfl <| us 2 rfl <| A_ ?_
 exact kf H
 rintro σ S e ⟨hk, H, rfl⟩
 refine E_ hk <| us 1 rfl <| A_ <| R_ <| M_ <| I_ ?_
 have h := oi h; subst h
 exact kr (.bool ((decide (a0.Version ≥ 1)) && (decide (a0.Version ≤ 127)))) rfl rfl rfl
 refine H_ rfl hc598 <| B_ <| us 2 rfl <| A_ ?_
 rcases iteS h with ⟨hc597, h⟩ | ⟨hc597, h⟩
 refine G_ rfl hc597 <| B_ <| us 1 rfl <| wg H 0 rfl rfl rfl rfl <| w (.bool (decide (a0.Scope ≥ 0))) rfl rfl <| w (.bool (decide (a0.Scope ≥ 0))) rfl rfl ?_
 refine O_ 4 (SH H [(1, (.ptr i1 0)), (58, (.bool ((decide (a0.Scope ≥ 0)) && (decide (a0.Scope ≤ 2)))))]) ?_ ?_
 revert H
 cases hc526 : (decide (a0.Scope ≥ 0))
 intro H
 refine us 4 rfl <| A_ ?_
 exact kf H
 intro H
 refine us 1 rfl <| L_ rfl rfl <| wg H 0 rfl rfl rfl rfl <| us 2 rfl <| A_ ?_
 exact kf H
 rintro σ S e ⟨hk, H, rfl⟩
 refine E_ hk <| w (.bool ((decide (a0.Scope ≥ 0)) && (decide (a0.Scope ≤ 2)))) rfl rfl ?_
 refine O_ 4 (SH H [(1, (.ptr i1 0)), (63, (.bool (((decide (a0.Scope ≥ 0)) && (decide (a0.Scope ≤ 2))) && (decide (a0.Size ≥ 0)))))]) ?_ ?_
 revert H
 cases hc527 : ((decide (a0.Scope ≥ 0)) && (decide (a0.Scope ≤ 2)))
 intro H
 refine us 4 rfl <| A_ ?_
 exact kf H
 intro H
 refine us 1 rfl <| L_ rfl rfl <| wg H 0 rfl rfl rfl rfl <| us 2 rfl <| A_ ?_
 exact kf H
 rintro σ S e ⟨hk, H, rfl⟩
 refine E_ hk <| w (.bool (((decide (a0.Scope ≥ 0)) && (decide (a0.Scope ≤ 2))) && (decide (a0.Size ≥ 0)))) rfl rfl ?_
 refine O_ 4 (SH H [(1, (.ptr i1 0)), (68, (.bool ((((decide (a0.Scope ≥ 0)) && (decide (a0.Scope ≤ 2))) && (decide (a0.Size ≥ 0))) && (decide (a0.Size ≤ 2147483647)))))]) ?_ ?_
 revert H
 cases hc528 : (((decide (a0.Scope ≥ 0)) && (decide (a0.Scope ≤ 2))) && (decide (a0.Size ≥ 0)))
 intro H
 refine us 4 rfl <| A_ ?_
 exact kf H
 intro H
 refine us 1 rfl <| L_ rfl rfl <| wg H 0 rfl rfl rfl rfl <| us 2 rfl <| A_ ?_
 exact kf H
 rintro σ S e ⟨hk, H, rfl⟩
 refine E_ hk <| w (.bool ((((decide (a0.Scope ≥ 0)) && (decide (a0.Scope ≤ 2))) && (decide (a0.Size ≥ 0))) && (decide (a0.Size ≤ 2147483647)))) rfl rfl ?_
 obtain ⟨y533, hy533, hOy533⟩ := bindS h
 refine O_ 4 (SJ [(1, (.ptr i1 0)), (73, (.bool y533))] [] [] [(i1, .cells (c_Api_Msg a0))] [] [] false) ?_ ?_
 replace h := hy533
 revert H
 cases hc535 : ((((decide (a0.Scope ≥ 0)) && (decide (a0.Scope ≤ 2))) && (decide (a0.Size ≥ 0))) && (decide (a0.Size ≤ 2147483647)))
 intro H
 replace h := iteF h hc535
 refine us 4 rfl <| A_ ?_
 have h := oi h; subst h
 exact kh H
 intro H
 replace h := iteT h hc535
 refine us 1 rfl <| L_ rfl rfl <| wg H 0 rfl rfl rfl rfl <| L_ rfl rfl ?_
 obtain ⟨y534, hy534, h⟩ := bindS h
 refine cl (.bool y534) [(.agg (c_Api_Filter a0.Filter))] rfl rfl rfl rfl (sv (s32 _ hy534)) <| us 1 rfl <| A_ ?_
 have h := oi h; subst h
 exact kh H
 rintro σ S e ⟨hk, H, rfl⟩
 replace h := hOy533
 refine E_ hk <| us 1 rfl ?_
 refine O_ 5 (SH H [(1, (.ptr i1 0)), (79, (.bool (y533 && (decide ((Sl.len a0.Wants) ≤ 12)))))]) ?_ ?_
 revert H
 cases hc536 : y533
 intro H
 refine us 5 rfl <| A_ ?_
 exact kf H
 intro H
 refine us 1 rfl <| L_ rfl rfl <| wg H 0 rfl rfl rfl rfl <| L_ rfl rfl <| wl rfl rfl rfl <| us 2 rfl <| A_ ?_
 exact kf H
 rintro σ S e ⟨hk, H, rfl⟩
 refine E_ hk <| w (.bool (y533 && (decide ((Sl.len a0.Wants) ≤ 12)))) rfl rfl ?_
 obtain ⟨y541, hy541, hOy541⟩ := bindS h
 refine O_ 4 (SJ [(84, (.bool y541))] [] [] [(i1, .cells (c_Api_Msg a0))] [] [] false) ?_ ?_
 replace h := hy541
 revert H
 cases hc543 : (y533 && (decide ((Sl.len a0.Wants) ≤ 12)))
 intro H
 replace h := iteF h hc543
 refine us 4 rfl <| A_ ?_
 have h := oi h; subst h
 exact kh H
 intro H
 replace h := iteT h hc543
 refine us 1 rfl <| L_ rfl rfl <| wg H 0 rfl rfl rfl rfl <| L_ rfl rfl ?_
 obtain ⟨y542, hy542, h⟩ := bindS h
 refine cl (.bool y542) [(encSl eS a0.Wants)] rfl rfl rfl (fe rfl rfl) (sv (s31 _ hy542)) <| us 1 rfl <| A_ ?_
 have h := oi h; subst h
 exact kh H
 rintro σ S e ⟨hk, H, rfl⟩
 replace h := hOy541
 refine E_ hk <| us 1 rfl <| A_ <| R_ <| M_ <| I_ ?_
 have h := oi h; subst h
 exact kr (.bool y541) rfl rfl rfl
 refine H_ rfl hc597 <| B_ <| us 2 rfl <| A_ ?_
 rcases iteS h with ⟨hc596, h⟩ | ⟨hc596, h⟩
 refine G_ rfl hc596 <| B_ <| us 1 rfl <| wg H 0 rfl rfl rfl rfl ?_
 obtain ⟨y570, hy570, h⟩ := bindS h
 refine cl (.bool y570) [(encSl e_Api_Mod a0.Mods), (.int .i64 3)] rfl rfl rfl (fe rfl (fo rfl rfl)) (sv (s33 _ hy570)) <| us 1 rfl <| A_ <| R_ <| M_ <| I_ ?_
 have h := oi h; subst h
 exact kr (.bool y570) rfl rfl rfl
 refine H_ rfl hc596 <| J_ <| B_ <| us 2 rfl <| A_ ?_
 obtain ⟨y573, hy573, hOy573⟩ := bindS h
 refine f_ (SJ [(1, (.ptr i1 0)), (38, (.int .i64 a0.Op)), (90, (.bool y573))] [] [] [(i1, .cells (c_Api_Msg a0))] [] [] false) ?_ ?_
 replace h := hy573
 rcases iteS h with ⟨hc574, h⟩ | ⟨hc574, h⟩
 refine G_ rfl hc574 <| N_ <| D_ ?_
 have h := oi h; subst h
 exact kh H
 refine H_ rfl hc574 <| V_ <| us 2 rfl <| A_ <| D_ ?_
 have h := oi h; subst h
 exact kh H
 rintro σ S e ⟨hk, H, rfl⟩
 replace h := hOy573
 refine K_ hk <| D_ ?_
 rcases iteS h with ⟨hc595, h⟩ | ⟨hc595, h⟩
 refine G_ rfl hc595 <| B_ <| us 1 rfl <| wg H 0 rfl rfl rfl rfl ?_
 obtain ⟨y585, hy585, h⟩ := bindS h
 refine cl (.bool y585) [(encSl e_Api_Mod a0.Mods), (.int .i64 1)] rfl rfl rfl (fe rfl (fo rfl rfl)) (sv (s33 _ hy585)) <| us 1 rfl <| A_ <| R_ <| M_ <| I_ ?_
 have h := oi h; subst h
 exact kr (.bool y585) rfl rfl rfl
 refine H_ rfl hc595 <| B_ <| us 2 rfl <| A_ ?_
 rcases iteS h with ⟨hc594, h⟩ | ⟨hc594, h⟩
 refine G_ rfl hc594 <| B_ <| us 1 rfl <| wg H 0 rfl rfl rfl rfl ?_
 obtain ⟨y590, hy590, h⟩ := bindS h
 refine cl (.int .u8 y590) [(.int .i64 9), (.int .i64 a0.Of)] rfl rfl rfl rfl (s18 _ hy590 rfl) <| w (.bool (y590 != 0)) rfl rfl <| w (.bool (y590 != 0)) rfl rfl ?_
 refine O_ 4 (SH H [(1, (.ptr i1 0)), (106, (.bool ((y590 != 0) && (decide (a0.Code ≥ 0)))))]) ?_ ?_
 revert H
 cases hc591 : (y590 != 0)
 intro H
 refine us 4 rfl <| A_ ?_
 exact kf H
 intro H
 refine us 1 rfl <| L_ rfl rfl <| wg H 0 rfl rfl rfl rfl <| us 2 rfl <| A_ ?_
 exact kf H
 rintro σ S e ⟨hk, H, rfl⟩
 refine E_ hk <| w (.bool ((y590 != 0) && (decide (a0.Code ≥ 0)))) rfl rfl ?_
 refine O_ 4 (SH H [(111, (.bool (((y590 != 0) && (decide (a0.Code ≥ 0))) && (decide (a0.Code ≤ 127)))))]) ?_ ?_
 revert H
 cases hc592 : ((y590 != 0) && (decide (a0.Code ≥ 0)))
 intro H
 refine us 4 rfl <| A_ ?_
 exact kf H
 intro H
 refine us 1 rfl <| L_ rfl rfl <| wg H 0 rfl rfl rfl rfl <| us 2 rfl <| A_ ?_
 exact kf H
 rintro σ S e ⟨hk, H, rfl⟩
 refine E_ hk <| us 1 rfl <| A_ <| R_ <| M_ <| I_ ?_
 have h := oi h; subst h
 exact kr (.bool (((y590 != 0) && (decide (a0.Code ≥ 0))) && (decide (a0.Code ≤ 127)))) rfl rfl rfl
 refine H_ rfl hc594 <| N_ <| Z_ <| D_ <| B_ <| us 1 rfl <| wg H 0 rfl rfl rfl rfl <| w (.bool (decide (a0.Op ≥ 1))) rfl rfl <| w (.bool (decide (a0.Op ≥ 1))) rfl rfl ?_
 refine O_ 4 (SH H [(119, (.bool ((decide (a0.Op ≥ 1)) && (decide (a0.Op ≤ 10)))))]) ?_ ?_
 revert H
 cases hc593 : (decide (a0.Op ≥ 1))
 intro H
 refine us 4 rfl <| A_ ?_
 exact kf H
 intro H
 refine us 1 rfl <| L_ rfl rfl <| wg H 0 rfl rfl rfl rfl <| us 2 rfl <| A_ ?_
 exact kf H
 rintro σ S e ⟨hk, H, rfl⟩
 refine E_ hk <| us 1 rfl <| A_ <| R_ ?_
 have h := oi h; subst h
 exact kr (.bool ((decide (a0.Op ≥ 1)) && (decide (a0.Op ≤ 10)))) rfl rfl rfl
end Go.Proofs.YtbinlabnilidiaaGreatDoor.M
