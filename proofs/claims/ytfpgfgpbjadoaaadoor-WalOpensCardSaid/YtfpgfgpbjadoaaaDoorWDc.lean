/- Part of the proof: the runs of functions on the abstract machine. -/
import Derived.Test.YtfpgfgpbjadoaaaDoorPamM4
import Derived.Test.YtfpgfgpbjadoaaaDoorFns
import Derived.Test.YtfpgfgpbjadoaaaDoorWDe
namespace Go.Proofs.YtfpgfgpbjadoaaaDoor.M
open Go Go.Pam Go.RowKit Go.WideShapes
set_option maxRecDepth 4000
set_option linter.unusedVariables false
set_option linter.unusedSimpArgs false
-- 10 prefect/wal.Sum
def F10_L0 (k : Nat) (a19 : Sl Int) (a21 : Int) : Nat → Int → Int → Option (Int × Int)
  | 0, _, _ => none
  | n + 1, x18, x22 =>
    if decide (x22 < a21) then
    Option.bind (Sl.at? a19 x22) fun y25 =>
    F10_L0 k a19 a21 n (ml .u32 (bXor .u32 x18 (cv .u32 y25)) 16777619) (ad .i64 x22 1)
    else
    some (x18, x22)
/-- prefect/wal.Sum -/
def F10 (k : Nat) (a0 : Str) : Option Int :=
  Option.bind (F10_L0 k (Str.bytes a0) (Sl.len (Str.bytes a0)) k 2166136261 0) fun y27 =>
  some y27.1
theorem l10_L0 {k : Nat} {a19 : Sl Int} {a21 : Int} {S0 : List SObj} {R : List Nat} {K : KX} {v20 : PV} (hv20 : IsSl (eI .u8) a19 v20)  {o : (Int × Int)}
    (hbrk : ∀ {σ' : Nat → PV} {S' : List SObj}, Known [(3, (.int .u32 o.1))] σ' → Hp S0 R S' [] [] [] → K (.exit 0) σ' S' false) :
    ∀ {n : Nat} {x18 : Int} {x22 : Int}, F10_L0 k a19 a21 n x18 x22 = some o → ∀ {σ : Nat → PV} {S : List SObj}, Known [(3, (.int .u32 x18)), (7, v20), (8, (.int .i64 a21)), (9, (.int .i64 x22))] σ → Hp S0 R S [] [] [] → WC env ⟨20, S0.length⟩ (.loop pc10L0) σ S false K := by
  intro n
  induction n with
  | zero => intro _ _ h; cases h
  | succ n ih =>
    intro x18 x22 h σ S  hk H
    rw [F10_L0] at h
    refine WC.loop ?_
    refine WC.of_known hk ?_
    refine WC.seqR ?_
    refine WO.step (v := (.bool (decide (x22 < a21)))) rfl (nz rfl rfl) ?_
    refine WO.nil ?_
    refine WC.seq ?_
    rcases iteS h with ⟨hc26, h⟩ | ⟨hc26, h⟩
    · refine WC.condT rfl hc26 ?_
      refine WC.skip ?_
      refine KX.seq_n ?_
      refine WC.seq ?_
      refine WC.block ?_
      refine WC.seqR ?_
      obtain ⟨y25, hy25, h⟩ := bindS h
      refine WO.step (v := (.iptr [(.int .u8 y25)] 0)) rfl (nz rfl (stp_idxAddr rfl hv20 rfl rfl rfl hy25 rfl rfl)) ?_
      refine WO.step (v := (.int .u8 y25)) rfl (nz rfl rfl) ?_
      refine WO.step (v := (.int .u8 y25)) rfl (nz rfl rfl) ?_
      refine WO.nil ?_
      refine WC.region ?_
      refine WO.step (v := (.int .u32 x18)) rfl (nz rfl rfl) ?_
      refine WO.step (v := (.int .u8 y25)) rfl (nz rfl rfl) ?_
      refine WO.step (v := (.int .u32 (cv .u32 y25))) rfl (nz rfl rfl) ?_
      refine WO.step (v := (.int .u32 (bXor .u32 x18 (cv .u32 y25)))) rfl (nz rfl rfl) ?_
      refine WO.step (v := (.int .u32 (ml .u32 (bXor .u32 x18 (cv .u32 y25)) 16777619))) rfl (nz rfl rfl) ?_
      refine WO.step (v := (.int .u32 (ml .u32 (bXor .u32 x18 (cv .u32 y25)) 16777619))) rfl (nz rfl rfl) ?_
      refine WO.nil ?_
      refine KX.block_n ?_
      refine KX.seq_n ?_
      refine WC.region ?_
      refine WO.step (v := (.int .i64 (ad .i64 x22 1))) rfl (nz rfl rfl) ?_
      refine WO.step (v := (.int .i64 (ad .i64 x22 1))) rfl (nz rfl rfl) ?_
      refine WO.nil ?_
      refine KX.seq_n ?_
      exact ih h  (known_cons rfl (known_cons rfl (known_cons rfl (known_cons rfl known_nil)))) (H.sub .slnil .slnil .slnil)
    · refine WC.condF rfl hc26 ?_
      refine WC.exit ?_
      refine KX.seq_x ?_
      refine KX.seq_x ?_
      obtain rfl := Option.some.inj h
      exact hbrk  (known_cons rfl known_nil) (H.sub .slnil .slnil .slnil)
theorem s10 : ∀ k : Nat, ∀ {a0 : Str} {r : Int}, F10 k a0 = some r → ∀ {vs : List PV}, vs.map PV.strip = [(.str a0)] → ∀ S : List SObj, evw env 10 vs S = some ((.int .u32 r), S, false) := by
  intro k a0 r h vs ha S
  unfold F10 at h
  refine evw_pureW (pf := fn10) rfl rfl ha (Nat.le_of_ble_eq_true rfl) rfl rfl ?_
  refine WB.of (pf := fn10) rfl ?_
  have H := Hp.start []
  refine WC.seqR ?_
  refine WO.step (v := (.int .u32 0)) rfl (nz rfl rfl) ?_
  refine WO.nil ?_
  refine WC.seqR ?_
  refine WO.step (v := (.int .u32 2166136261)) rfl (nz rfl rfl) ?_
  refine WO.nil ?_
  refine WC.seq ?_
  refine WC.seqR ?_
  refine WO.step (v := (.str a0)) rfl (nz rfl rfl) ?_
  refine WO.ex rfl (nzx rfl (stp_bytes rfl rfl rfl rfl H)) ?_
  rintro v1 S ⟨hv1, H⟩
  replace H : Hp [] [] _ [] [(v1, 1)] [] := H
  refine WO.step (v := (.int .i64 (Sl.len (Str.bytes a0)))) rfl (nz rfl (stp_len rfl hv1 rfl)) ?_
  refine WO.step (v := (.int .i64 0)) rfl (nz rfl rfl) ?_
  refine WO.nil ?_
  obtain ⟨y27, hy27, hOy27⟩ := bindS h
  refine WC.block ?_
  refine l10_L0 (hv1) ?_ hy27  (known_cons rfl (known_cons rfl (known_cons rfl (known_cons rfl known_nil)))) (H.sub .slnil (.cons _ .slnil) .slnil)
  · intro σ S  hk H; replace h := hOy27
    refine KX.of_known hk ?_
    refine KX.block_x ?_
    refine KX.seq_n ?_
    refine WC.seqR ?_
    refine WO.step (v := (.int .u32 y27.1)) rfl (nz rfl rfl) ?_
    refine WO.step (v := (.int .u32 y27.1)) rfl (nz rfl rfl) ?_
    refine WO.nil ?_
    refine WC.ret ?_
    obtain rfl := Option.some.inj h
    refine KB.ret (vs := [(.int .u32 y27.1)]) (res_tmp rfl res_nil) (fl_cons' rfl rfl) ?_
    exact rfl
-- 12 prefect/wal.Pack
/-- prefect/wal.Pack -/
def F12 (k : Nat) (a0 : Str) : Option Str :=
  Option.bind (Str.sub? a0 0 (imin (Str.len a0) 60000)) fun z1 =>
  Option.bind (F10 k z1) fun y2 =>
  Option.bind (shr? .i64 (Str.len z1) 8) fun z3 =>
  Option.bind (shr? .u32 y2 24) fun z4 =>
  Option.bind (shr? .u32 y2 16) fun z5 =>
  Option.bind (shr? .u32 y2 8) fun z6 =>
  Option.bind (Str.app? (Str.of (some [cv .u8 z3, cv .u8 (Str.len z1), cv .u8 z4, cv .u8 z5, cv .u8 z6, cv .u8 y2])) z1) fun z8 =>
  some z8
theorem s12 : ∀ k : Nat, ∀ {a0 : Str} {r : Str}, F12 k a0 = some r → ∀ {vs : List PV}, vs.map PV.strip = [(.str a0)] → ∀ S : List SObj, evw env 12 vs S = some ((.str r), S, false) := by
  intro k a0 r h vs ha S
  unfold F12 at h
  refine evw_pureW (pf := fn12) rfl rfl ha (Nat.le_of_ble_eq_true rfl) rfl rfl ?_
  refine WB.of (pf := fn12) rfl ?_
  have H := Hp.start []
  refine WC.seqR ?_
  refine WO.step (v := (.str [])) rfl (nz rfl rfl) ?_
  refine WO.nil ?_
  refine WC.seqR ?_
  refine WO.step (v := (.str a0)) rfl (nz rfl rfl) ?_
  refine WO.step (v := (.str a0)) rfl (nz rfl rfl) ?_
  refine WO.step (v := (.int .i64 (Str.len a0))) rfl (nz rfl rfl) ?_
  refine WO.step (v := (.int .i64 (imin (Str.len a0) 60000))) rfl (nz rfl rfl) ?_
  obtain ⟨z1, hz1, h⟩ := bindS h
  refine WO.step (v := (.str z1)) rfl (nz rfl (stp_subStr rfl rfl rfl rfl hz1)) ?_
  refine WO.step (v := (.str z1)) rfl (nz rfl rfl) ?_
  refine WO.nil ?_
  refine WC.seqR ?_
  refine WO.step (v := (.str z1)) rfl (nz rfl rfl) ?_
  refine WO.step (v := (.int .i64 (Str.len z1))) rfl (nz rfl rfl) ?_
  refine WO.step (v := (.str z1)) rfl (nz rfl rfl) ?_
  obtain ⟨y2, hy2, h⟩ := bindS h
  refine WO.step (v := (.int .u32 y2)) rfl (nz rfl (stp_call (vs := [(.str z1)]) rfl rfl (s10 _ hy2 rfl _))) ?_
  refine WO.step (v := (.int .i64 (Str.len z1))) rfl (nz rfl rfl) ?_
  refine WO.step (v := (.int .u32 y2)) rfl (nz rfl rfl) ?_
  refine WO.nil ?_
  refine WC.seqR ?_
  refine WO.step (v := (.int .i64 (Str.len z1))) rfl (nz rfl rfl) ?_
  obtain ⟨z3, hz3, h⟩ := bindS h
  refine WO.step (v := (.int .i64 z3)) rfl (nz rfl (stp_shr rfl rfl hz3)) ?_
  refine WO.step (v := (.int .u8 (cv .u8 z3))) rfl (nz rfl rfl) ?_
  refine WO.step (v := (.int .i64 (Str.len z1))) rfl (nz rfl rfl) ?_
  refine WO.step (v := (.int .u8 (cv .u8 (Str.len z1)))) rfl (nz rfl rfl) ?_
  refine WO.step (v := (.int .u32 y2)) rfl (nz rfl rfl) ?_
  obtain ⟨z4, hz4, h⟩ := bindS h
  refine WO.step (v := (.int .u32 z4)) rfl (nz rfl (stp_shr rfl rfl hz4)) ?_
  refine WO.step (v := (.int .u8 (cv .u8 z4))) rfl (nz rfl rfl) ?_
  refine WO.step (v := (.int .u32 y2)) rfl (nz rfl rfl) ?_
  obtain ⟨z5, hz5, h⟩ := bindS h
  refine WO.step (v := (.int .u32 z5)) rfl (nz rfl (stp_shr rfl rfl hz5)) ?_
  refine WO.step (v := (.int .u8 (cv .u8 z5))) rfl (nz rfl rfl) ?_
  refine WO.step (v := (.int .u32 y2)) rfl (nz rfl rfl) ?_
  obtain ⟨z6, hz6, h⟩ := bindS h
  refine WO.step (v := (.int .u32 z6)) rfl (nz rfl (stp_shr rfl rfl hz6)) ?_
  refine WO.step (v := (.int .u8 (cv .u8 z6))) rfl (nz rfl rfl) ?_
  refine WO.step (v := (.int .u32 y2)) rfl (nz rfl rfl) ?_
  refine WO.step (v := (.int .u8 (cv .u8 y2))) rfl (nz rfl rfl) ?_
  refine WO.step rfl (nz rfl (stp_buildSlice (ys := [cv .u8 z3, cv .u8 (Str.len z1), cv .u8 z4, cv .u8 z5, cv .u8 z6, cv .u8 y2]) (f := (eI .u8)) (parts := [(0, (.int .u8 (cv .u8 z3))), (1, (.int .u8 (cv .u8 (Str.len z1)))), (2, (.int .u8 (cv .u8 z4))), (3, (.int .u8 (cv .u8 z5))), (4, (.int .u8 (cv .u8 z6))), (5, (.int .u8 (cv .u8 y2)))]) rfl rfl rfl rfl rfl rfl (fc ⟨rfl, rfl⟩ (fc ⟨rfl, rfl⟩ (fc ⟨rfl, rfl⟩ (fc ⟨rfl, rfl⟩ (fc ⟨rfl, rfl⟩ (fc ⟨rfl, rfl⟩ (fun p hp => nomatch hp))))))) rfl)) ?_
  have hv7 : IsSl (eI .u8) (some [cv .u8 z3, cv .u8 (Str.len z1), cv .u8 z4, cv .u8 z5, cv .u8 z6, cv .u8 y2]) _ := ⟨.full, rfl⟩
  refine WO.step (v := (.str (Str.of (some [cv .u8 z3, cv .u8 (Str.len z1), cv .u8 z4, cv .u8 z5, cv .u8 z6, cv .u8 y2])))) rfl (nz (fz_tmp' hv7.frz rfl) (stp_text rfl hv7 rfl rfl rfl)) ?_
  refine WO.step (v := (.str z1)) rfl (nz rfl rfl) ?_
  obtain ⟨z8, hz8, h⟩ := bindS h
  refine WO.step (v := (.str z8)) rfl (nz rfl (stp_strApp rfl rfl hz8)) ?_
  refine WO.step (v := (.str z8)) rfl (nz rfl rfl) ?_
  refine WO.nil ?_
  refine WC.ret ?_
  obtain rfl := Option.some.inj h
  refine KB.ret (vs := [(.str z8)]) (res_tmp rfl res_nil) (fl_cons' rfl rfl) ?_
  exact rfl
-- 11 prefect/prefectref20.Sum
def F11_L0 (k : Nat) (a13 : Str) : Nat → Int → Int → Option (Int × Int)
  | 0, _, _ => none
  | n + 1, x14, x15 =>
    if decide (x15 < (Str.len a13)) then
    Option.bind (Str.at? a13 x15) fun c18 =>
    F11_L0 k a13 n (ml .u32 (bXor .u32 x14 (cv .u32 c18)) 16777619) (ad .i64 x15 1)
    else
    some (x14, x15)
/-- prefect/prefectref20.Sum -/
def F11 (k : Nat) (a0 : Str) : Option Int :=
  Option.bind (F11_L0 k a0 k 2166136261 0) fun y20 =>
  some y20.1
theorem l11_L0 {k : Nat} {a13 : Str} {S0 : List SObj} {R : List Nat} {K : KX}  {o : (Int × Int)}
    (hbrk : ∀ {σ' : Nat → PV} {S' : List SObj}, Known [(3, (.int .u32 o.1))] σ' → Hp S0 R S' [] [] [] → K (.exit 0) σ' S' false) :
    ∀ {n : Nat} {x14 : Int} {x15 : Int}, F11_L0 k a13 n x14 x15 = some o → ∀ {σ : Nat → PV} {S : List SObj}, Known [(0, (.str a13)), (3, (.int .u32 x14)), (4, (.int .i64 x15))] σ → Hp S0 R S [] [] [] → WC env ⟨19, S0.length⟩ (.loop pc11L0) σ S false K := by
  intro n
  induction n with
  | zero => intro _ _ h; cases h
  | succ n ih =>
    intro x14 x15 h σ S  hk H
    rw [F11_L0] at h
    refine WC.loop ?_
    refine WC.of_known hk ?_
    refine WC.seq ?_
    refine WC.seqR ?_
    refine WO.step (v := (.int .i64 x15)) rfl (nz rfl rfl) ?_
    refine WO.step (v := (.str a13)) rfl (nz rfl rfl) ?_
    refine WO.step (v := (.int .i64 (Str.len a13))) rfl (nz rfl rfl) ?_
    refine WO.step (v := (.bool (decide (x15 < (Str.len a13))))) rfl (nz rfl rfl) ?_
    refine WO.nil ?_
    rcases iteS h with ⟨hc19, h⟩ | ⟨hc19, h⟩
    · refine WC.condT rfl hc19 ?_
      refine WC.skip ?_
      refine KX.seq_n ?_
      refine WC.seq ?_
      refine WC.block ?_
      refine WC.region ?_
      refine WO.step (v := (.int .u32 x14)) rfl (nz rfl rfl) ?_
      refine WO.step (v := (.str a13)) rfl (nz rfl rfl) ?_
      refine WO.step (v := (.int .i64 x15)) rfl (nz rfl rfl) ?_
      obtain ⟨c18, hc18, h⟩ := bindS h
      refine WO.step (v := (.int .u8 c18)) rfl (nz rfl (stp_idxStr rfl rfl rfl hc18)) ?_
      refine WO.step (v := (.int .u32 (cv .u32 c18))) rfl (nz rfl rfl) ?_
      refine WO.step (v := (.int .u32 (bXor .u32 x14 (cv .u32 c18)))) rfl (nz rfl rfl) ?_
      refine WO.step (v := (.int .u32 (ml .u32 (bXor .u32 x14 (cv .u32 c18)) 16777619))) rfl (nz rfl rfl) ?_
      refine WO.step (v := (.int .u32 (ml .u32 (bXor .u32 x14 (cv .u32 c18)) 16777619))) rfl (nz rfl rfl) ?_
      refine WO.nil ?_
      refine KX.block_n ?_
      refine KX.seq_n ?_
      refine WC.region ?_
      refine WO.step (v := (.int .i64 x15)) rfl (nz rfl rfl) ?_
      refine WO.step (v := (.int .i64 (ad .i64 x15 1))) rfl (nz rfl rfl) ?_
      refine WO.step (v := (.int .i64 (ad .i64 x15 1))) rfl (nz rfl rfl) ?_
      refine WO.nil ?_
      refine KX.seq_n ?_
      exact ih h  (known_cons rfl (known_cons rfl (known_cons rfl known_nil))) (H.sub .slnil .slnil .slnil)
    · refine WC.condF rfl hc19 ?_
      refine WC.exit ?_
      refine KX.seq_x ?_
      refine KX.seq_x ?_
      obtain rfl := Option.some.inj h
      exact hbrk  (known_cons rfl known_nil) (H.sub .slnil .slnil .slnil)
theorem s11 : ∀ k : Nat, ∀ {a0 : Str} {r : Int}, F11 k a0 = some r → ∀ {vs : List PV}, vs.map PV.strip = [(.str a0)] → ∀ S : List SObj, evw env 11 vs S = some ((.int .u32 r), S, false) := by
  intro k a0 r h vs ha S
  unfold F11 at h
  refine evw_pureW (pf := fn11) rfl rfl ha (Nat.le_of_ble_eq_true rfl) rfl rfl ?_
  refine WB.of (pf := fn11) rfl ?_
  have H := Hp.start []
  refine WC.seqR ?_
  refine WO.step (v := (.int .u32 0)) rfl (nz rfl rfl) ?_
  refine WO.nil ?_
  refine WC.seqR ?_
  refine WO.step (v := (.int .u32 2166136261)) rfl (nz rfl rfl) ?_
  refine WO.nil ?_
  refine WC.seq ?_
  refine WC.seqR ?_
  refine WO.step (v := (.int .i64 0)) rfl (nz rfl rfl) ?_
  refine WO.nil ?_
  obtain ⟨y20, hy20, hOy20⟩ := bindS h
  refine WC.block ?_
  refine l11_L0 ?_ hy20  (known_cons rfl (known_cons rfl (known_cons rfl known_nil))) (H.sub .slnil .slnil .slnil)
  · intro σ S  hk H; replace h := hOy20
    refine KX.of_known hk ?_
    refine KX.block_x ?_
    refine KX.seq_n ?_
    refine WC.seqR ?_
    refine WO.step (v := (.int .u32 y20.1)) rfl (nz rfl rfl) ?_
    refine WO.step (v := (.int .u32 y20.1)) rfl (nz rfl rfl) ?_
    refine WO.nil ?_
    refine WC.ret ?_
    obtain rfl := Option.some.inj h
    refine KB.ret (vs := [(.int .u32 y20.1)]) (res_tmp rfl res_nil) (fl_cons' rfl rfl) ?_
    exact rfl
-- 13 prefect/prefectref20.Pack
/-- prefect/prefectref20.Pack -/
def F13 (k : Nat) (a0 : Str) : Option Str :=
  Option.bind (Str.sub? a0 0 (imin (Str.len a0) 60000)) fun z1 =>
  Option.bind (F11 k z1) fun y2 =>
  Option.bind (shr? .i64 (Str.len z1) 8) fun z3 =>
  Option.bind (shr? .u32 y2 24) fun z4 =>
  Option.bind (shr? .u32 y2 16) fun z5 =>
  Option.bind (shr? .u32 y2 8) fun z6 =>
  Option.bind (Str.app? (Str.of (some [cv .u8 z3, cv .u8 (Str.len z1), cv .u8 z4, cv .u8 z5, cv .u8 z6, cv .u8 y2])) z1) fun z8 =>
  some z8
theorem s13 : ∀ k : Nat, ∀ {a0 : Str} {r : Str}, F13 k a0 = some r → ∀ {vs : List PV}, vs.map PV.strip = [(.str a0)] → ∀ S : List SObj, evw env 13 vs S = some ((.str r), S, false) := by
  intro k a0 r h vs ha S
  unfold F13 at h
  refine evw_pureW (pf := fn13) rfl rfl ha (Nat.le_of_ble_eq_true rfl) rfl rfl ?_
  refine WB.of (pf := fn13) rfl ?_
  have H := Hp.start []
  refine WC.seqR ?_
  refine WO.step (v := (.str [])) rfl (nz rfl rfl) ?_
  refine WO.nil ?_
  refine WC.seqR ?_
  refine WO.step (v := (.str a0)) rfl (nz rfl rfl) ?_
  refine WO.step (v := (.str a0)) rfl (nz rfl rfl) ?_
  refine WO.step (v := (.int .i64 (Str.len a0))) rfl (nz rfl rfl) ?_
  refine WO.step (v := (.int .i64 (imin (Str.len a0) 60000))) rfl (nz rfl rfl) ?_
  obtain ⟨z1, hz1, h⟩ := bindS h
  refine WO.step (v := (.str z1)) rfl (nz rfl (stp_subStr rfl rfl rfl rfl hz1)) ?_
  refine WO.step (v := (.str z1)) rfl (nz rfl rfl) ?_
  refine WO.nil ?_
  refine WC.seqR ?_
  refine WO.step (v := (.str z1)) rfl (nz rfl rfl) ?_
  obtain ⟨y2, hy2, h⟩ := bindS h
  refine WO.step (v := (.int .u32 y2)) rfl (nz rfl (stp_call (vs := [(.str z1)]) rfl rfl (s11 _ hy2 rfl _))) ?_
  refine WO.step (v := (.int .u32 y2)) rfl (nz rfl rfl) ?_
  refine WO.nil ?_
  refine WC.seqR ?_
  refine WO.step (v := (.str z1)) rfl (nz rfl rfl) ?_
  refine WO.step (v := (.int .i64 (Str.len z1))) rfl (nz rfl rfl) ?_
  obtain ⟨z3, hz3, h⟩ := bindS h
  refine WO.step (v := (.int .i64 z3)) rfl (nz rfl (stp_shr rfl rfl hz3)) ?_
  refine WO.step (v := (.int .u8 (cv .u8 z3))) rfl (nz rfl rfl) ?_
  refine WO.step (v := (.str z1)) rfl (nz rfl rfl) ?_
  refine WO.step (v := (.int .i64 (Str.len z1))) rfl (nz rfl rfl) ?_
  refine WO.step (v := (.int .u8 (cv .u8 (Str.len z1)))) rfl (nz rfl rfl) ?_
  refine WO.step (v := (.int .u32 y2)) rfl (nz rfl rfl) ?_
  obtain ⟨z4, hz4, h⟩ := bindS h
  refine WO.step (v := (.int .u32 z4)) rfl (nz rfl (stp_shr rfl rfl hz4)) ?_
  refine WO.step (v := (.int .u8 (cv .u8 z4))) rfl (nz rfl rfl) ?_
  refine WO.step (v := (.int .u32 y2)) rfl (nz rfl rfl) ?_
  obtain ⟨z5, hz5, h⟩ := bindS h
  refine WO.step (v := (.int .u32 z5)) rfl (nz rfl (stp_shr rfl rfl hz5)) ?_
  refine WO.step (v := (.int .u8 (cv .u8 z5))) rfl (nz rfl rfl) ?_
  refine WO.step (v := (.int .u32 y2)) rfl (nz rfl rfl) ?_
  obtain ⟨z6, hz6, h⟩ := bindS h
  refine WO.step (v := (.int .u32 z6)) rfl (nz rfl (stp_shr rfl rfl hz6)) ?_
  refine WO.step (v := (.int .u8 (cv .u8 z6))) rfl (nz rfl rfl) ?_
  refine WO.step (v := (.int .u32 y2)) rfl (nz rfl rfl) ?_
  refine WO.step (v := (.int .u8 (cv .u8 y2))) rfl (nz rfl rfl) ?_
  refine WO.step rfl (nz rfl (stp_buildSlice (ys := [cv .u8 z3, cv .u8 (Str.len z1), cv .u8 z4, cv .u8 z5, cv .u8 z6, cv .u8 y2]) (f := (eI .u8)) (parts := [(0, (.int .u8 (cv .u8 z3))), (1, (.int .u8 (cv .u8 (Str.len z1)))), (2, (.int .u8 (cv .u8 z4))), (3, (.int .u8 (cv .u8 z5))), (4, (.int .u8 (cv .u8 z6))), (5, (.int .u8 (cv .u8 y2)))]) rfl rfl rfl rfl rfl rfl (fc ⟨rfl, rfl⟩ (fc ⟨rfl, rfl⟩ (fc ⟨rfl, rfl⟩ (fc ⟨rfl, rfl⟩ (fc ⟨rfl, rfl⟩ (fc ⟨rfl, rfl⟩ (fun p hp => nomatch hp))))))) rfl)) ?_
  have hv7 : IsSl (eI .u8) (some [cv .u8 z3, cv .u8 (Str.len z1), cv .u8 z4, cv .u8 z5, cv .u8 z6, cv .u8 y2]) _ := ⟨.full, rfl⟩
  refine WO.step (v := (.str (Str.of (some [cv .u8 z3, cv .u8 (Str.len z1), cv .u8 z4, cv .u8 z5, cv .u8 z6, cv .u8 y2])))) rfl (nz (fz_tmp' hv7.frz rfl) (stp_text rfl hv7 rfl rfl rfl)) ?_
  refine WO.step (v := (.str z1)) rfl (nz rfl rfl) ?_
  obtain ⟨z8, hz8, h⟩ := bindS h
  refine WO.step (v := (.str z8)) rfl (nz rfl (stp_strApp rfl rfl hz8)) ?_
  refine WO.step (v := (.str z8)) rfl (nz rfl rfl) ?_
  refine WO.nil ?_
  refine WC.ret ?_
  obtain rfl := Option.some.inj h
  refine KB.ret (vs := [(.str z8)]) (res_tmp rfl res_nil) (fl_cons' rfl rfl) ?_
  exact rfl
-- 14 prefect/prefectlaw21.same
def F14_L0 (k : Nat) (a27 : Sl Str) (a28 : Sl Str) : Nat → Int → Option (Out Bool Int)
  | 0, _ => none
  | n + 1, x29 =>
    if decide (x29 < (Sl.len a27)) then
    Option.bind (Sl.at? a27 x29) fun y35 =>
    Option.bind (Sl.at? a28 x29) fun y36 =>
    if !(y35 == y36) then
    some (Out.ret false)
    else
    F14_L0 k a27 a28 n (ad .i64 x29 1)
    else
    some (Out.brk x29)
/-- prefect/prefectlaw21.same -/
def F14 (k : Nat) (a0 : Sl Str) (a1 : Sl Str) : Option Bool :=
  if (Sl.len a0) != (Sl.len a1) then
  some false
  else
  Option.bind (F14_L0 k a0 a1 k 0) fun y40 =>
  match y40 with
  | .ret y40r => some y40r
  | .brk y40b =>
  some true
theorem l14_L0 {k : Nat} {a27 : Sl Str} {a28 : Sl Str} {S0 : List SObj} {R : List Nat} {K : KX}  {o : Out Bool Int}
    (hret : ∀ r : Bool, o = .ret r → ∀ {σ' : Nat → PV} {S' : List SObj}, Known [(4, (.bool r))] σ' → Hp S0 R S' [] [] [] → K .ret σ' S' false)
    (hbrk : ∀ y : Int, o = .brk y → ∀ {σ' : Nat → PV} {S' : List SObj}, Known [] σ' → Hp S0 R S' [] [] [] → K (.exit 0) σ' S' false) :
    ∀ {n : Nat} {x29 : Int}, F14_L0 k a27 a28 n x29 = some o → ∀ {σ : Nat → PV} {S : List SObj}, Known [(0, (encSl eS a27)), (1, (encSl eS a28)), (5, (.int .i64 x29))] σ → Hp S0 R S [] [] [] → WC env ⟨26, S0.length⟩ (.loop pc14L0) σ S false K := by
  intro n
  induction n with
  | zero => intro _ h; cases h
  | succ n ih =>
    intro x29 h σ S  hk H
    rw [F14_L0] at h
    refine WC.loop ?_
    refine WC.of_known hk ?_
    refine WC.seq ?_
    refine WC.seqR ?_
    refine WO.step (v := (.int .i64 x29)) rfl (nz rfl rfl) ?_
    refine WO.step (v := (encSl eS a27)) rfl (nz rfl rfl) ?_
    refine WO.step (v := (.int .i64 (Sl.len a27))) rfl (nz rfl (stp_len rfl (isSl_enc _ _) rfl)) ?_
    refine WO.step (v := (.bool (decide (x29 < (Sl.len a27))))) rfl (nz rfl rfl) ?_
    refine WO.nil ?_
    rcases iteS h with ⟨hc39, h⟩ | ⟨hc39, h⟩
    · refine WC.condT rfl hc39 ?_
      refine WC.skip ?_
      refine KX.seq_n ?_
      refine WC.seq ?_
      refine WC.block ?_
      refine WC.seq ?_
      refine WC.draw ?_
      refine WH.step (v := (encSl eS a27)) rfl (nz rfl rfl) rfl rfl ?_
      refine WH.step (v := (.int .i64 x29)) rfl (nz rfl rfl) rfl rfl ?_
      obtain ⟨y35, hy35, h⟩ := bindS h
      refine WH.step (v := (.iptr [(.str y35)] 0)) rfl (nz rfl (stp_idxAddr rfl (isSl_enc _ _) rfl rfl rfl hy35 rfl rfl)) rfl rfl ?_
      refine WH.step (v := (.str y35)) rfl (nz rfl rfl) rfl rfl ?_
      refine WH.step (v := (encSl eS a28)) rfl (nz rfl rfl) rfl rfl ?_
      refine WH.step (v := (.int .i64 x29)) rfl (nz rfl rfl) rfl rfl ?_
      obtain ⟨y36, hy36, h⟩ := bindS h
      refine WH.step (v := (.iptr [(.str y36)] 0)) rfl (nz rfl (stp_idxAddr rfl (isSl_enc _ _) rfl rfl rfl hy36 rfl rfl)) rfl rfl ?_
      refine WH.step (v := (.str y36)) rfl (nz rfl rfl) rfl rfl ?_
      refine WH.nil ?_
      refine WO.step (v := (.bool (!(y35 == y36)))) rfl (nz rfl rfl) ?_
      refine WO.nil ?_
      refine KX.seq_n ?_
      rcases iteS h with ⟨hc38, h⟩ | ⟨hc38, h⟩
      · refine WC.condT rfl hc38 ?_
        refine WC.seqR ?_
        refine WO.step (v := (.bool false)) rfl (nz rfl rfl) ?_
        refine WO.nil ?_
        refine WC.ret ?_
        refine KX.block_r ?_
        refine KX.seq_r ?_
        refine KX.seq_r ?_
        obtain rfl := Option.some.inj h
        exact hret _ rfl (known_cons rfl known_nil) (H.sub .slnil .slnil .slnil)
      · refine WC.condF rfl hc38 ?_
        refine WC.skip ?_
        refine KX.block_n ?_
        refine KX.seq_n ?_
        refine WC.region ?_
        refine WO.step (v := (.int .i64 x29)) rfl (nz rfl rfl) ?_
        refine WO.step (v := (.int .i64 (ad .i64 x29 1))) rfl (nz rfl rfl) ?_
        refine WO.step (v := (.int .i64 (ad .i64 x29 1))) rfl (nz rfl rfl) ?_
        refine WO.nil ?_
        refine KX.seq_n ?_
        exact ih h  (known_cons rfl (known_cons rfl (known_cons rfl known_nil))) (H.sub .slnil .slnil .slnil)
    · refine WC.condF rfl hc39 ?_
      refine WC.exit ?_
      refine KX.seq_x ?_
      refine KX.seq_x ?_
      obtain rfl := Option.some.inj h
      exact hbrk _ rfl  known_nil (H.sub .slnil .slnil .slnil)
theorem s14 : ∀ k : Nat, ∀ {a0 : Sl Str} {a1 : Sl Str} {r : Bool}, F14 k a0 a1 = some r → ∀ {vs : List PV}, vs.map PV.strip = [(encSl eS a0), (encSl eS a1)] → ∀ S : List SObj, evw env 14 vs S = some ((.bool r), S, false) := by
  intro k a0 a1 r h vs ha S
  unfold F14 at h
  refine evw_pureW (pf := fn14) rfl rfl ha (Nat.le_of_ble_eq_true rfl) (by simp [PV.clean, cleanL, clean_encSl clean_eS]) rfl ?_
  refine WB.of (pf := fn14) rfl ?_
  have H := Hp.start []
  refine WC.seqR ?_
  refine WO.step (v := (.bool false)) rfl (nz rfl rfl) ?_
  refine WO.nil ?_
  refine WC.seq ?_
  refine WC.seqR ?_
  refine WO.step (v := (encSl eS a0)) rfl (nz rfl rfl) ?_
  refine WO.step (v := (.int .i64 (Sl.len a0))) rfl (nz rfl (stp_len rfl (isSl_enc _ _) rfl)) ?_
  refine WO.step (v := (encSl eS a1)) rfl (nz rfl rfl) ?_
  refine WO.step (v := (.int .i64 (Sl.len a1))) rfl (nz rfl (stp_len rfl (isSl_enc _ _) rfl)) ?_
  refine WO.step (v := (.bool ((Sl.len a0) != (Sl.len a1)))) rfl (nz rfl rfl) ?_
  refine WO.nil ?_
  rcases iteS h with ⟨hc41, h⟩ | ⟨hc41, h⟩
  · refine WC.condT rfl hc41 ?_
    refine WC.seqR ?_
    refine WO.step (v := (.bool false)) rfl (nz rfl rfl) ?_
    refine WO.nil ?_
    refine WC.ret ?_
    refine KX.seq_r ?_
    obtain rfl := Option.some.inj h
    refine KB.ret (vs := [(.bool false)]) (res_tmp rfl res_nil) (fl_cons' rfl rfl) ?_
    exact rfl
  · refine WC.condF rfl hc41 ?_
    refine WC.skip ?_
    refine KX.seq_n ?_
    refine WC.seq ?_
    refine WC.seqR ?_
    refine WO.step (v := (.int .i64 0)) rfl (nz rfl rfl) ?_
    refine WO.nil ?_
    obtain ⟨y40, hy40, hOy40⟩ := bindS h
    refine WC.block ?_
    refine l14_L0 ?_ ?_ hy40  (known_cons rfl (known_cons rfl (known_cons rfl known_nil))) (H.sub .slnil .slnil .slnil)
    · intro y40r he σ S  hk H; subst he; replace h := hOy40; dsimp only at h
      refine KX.of_known hk ?_
      refine KX.block_r ?_
      refine KX.seq_r ?_
      obtain rfl := Option.some.inj h
      refine KB.ret (vs := [(.bool y40r)]) (res_tmp rfl res_nil) (fl_cons' rfl rfl) ?_
      exact rfl
    · intro y40b he σ S  hk H; subst he; replace h := hOy40; dsimp only at h
      refine KX.of_known hk ?_
      refine KX.block_x ?_
      refine KX.seq_n ?_
      refine WC.seqR ?_
      refine WO.step (v := (.bool true)) rfl (nz rfl rfl) ?_
      refine WO.nil ?_
      refine WC.ret ?_
      obtain rfl := Option.some.inj h
      refine KB.ret (vs := [(.bool true)]) (res_tmp rfl res_nil) (fl_cons' rfl rfl) ?_
      exact rfl
end Go.Proofs.YtfpgfgpbjadoaaaDoor.M
