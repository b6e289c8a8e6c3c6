/- Part of the proof: the runs of functions on the abstract machine. -/
import Derived.Test.YtecimmaoilignaaGreatDoorPamM4
import Derived.Test.YtecimmaoilignaaGreatDoorSL
import Derived.Test.YtecimmaoilignaaGreatDoorSDe
namespace Go.Proofs.YtecimmaoilignaaGreatDoor.M.L
open Go Go.Pam Go.RowKit Go.WideShapes
set_option maxRecDepth 4000
set_option linter.unusedVariables false
set_option linter.unusedSimpArgs false
-- 140 prefect/wal.Sum
def F140_L0 (k : Nat) (a19 : Sl Int) (a21 : Int) : Nat → Int → Int → Option (Int × Int)
  | 0, _, _ => none
  | n + 1, x18, x22 =>
    if decide (x22 < a21) then
    Option.bind (Sl.at? a19 x22) fun y25 =>
    F140_L0 k a19 a21 n (ml .u32 (bXor .u32 x18 (cv .u32 y25)) 16777619) (ad .i64 x22 1)
    else
    some (x18, x22)
/-- prefect/wal.Sum -/
def F140 (k : Nat) (a0 : Str) : Option Int :=
  Option.bind (F140_L0 k (Str.bytes a0) (Sl.len (Str.bytes a0)) k 2166136261 0) fun y27 =>
  some y27.1
theorem l140_L0 {k : Nat} {a19 : Sl Int} {a21 : Int} {S0 : List SObj} {R : List Nat} {K : KX} {v20 : PV} (hv20 : IsSl (eI .u8) a19 v20)  {o : (Int × Int)}
    (hbrk : ∀ {σ' : Nat → PV} {S' : List SObj}, Known [(3, (.int .u32 o.1))] σ' → Hp S0 R S' [] [] [] → K (.exit 0) σ' S' false) :
    ∀ {n : Nat} {x18 : Int} {x22 : Int}, F140_L0 k a19 a21 n x18 x22 = some o → ∀ {σ : Nat → PV} {S : List SObj}, Known [(3, (.int .u32 x18)), (7, v20), (8, (.int .i64 a21)), (9, (.int .i64 x22))] σ → Hp S0 R S [] [] [] → WC env ⟨20, S0.length⟩ (.loop pc140L0) σ S false K := by
  intro n
  induction n with
  | zero => intro _ _ h; cases h
  | succ n ih =>
    intro x18 x22 h σ S  hk H
    rw [F140_L0] at h
    refine WC.loop ?_
    refine WC.of_known hk ?_
    refine WC.seqR ?_
    refine WO.step (v := (.bool (decide (x22 < a21)))) rfl (nz rfl rfl) ?_
    refine WO.nil ?_
    refine WC.seq ?_
    rcases iteS h with ⟨hc26, h⟩ | ⟨hc26, h⟩
    · refine WC.condT rfl hc26 ?_
      refine WC.skip ?_
      refine KX.seq_n ?_
      refine WC.seq ?_
      refine WC.block ?_
      refine WC.seqR ?_
      obtain ⟨y25, hy25, h⟩ := bindS h
      refine WO.step (v := (.iptr [(.int .u8 y25)] 0)) rfl (nz rfl (stp_idxAddr rfl hv20 rfl rfl rfl hy25 rfl rfl)) ?_
      refine WO.step (v := (.int .u8 y25)) rfl (nz rfl rfl) ?_
      refine WO.step (v := (.int .u8 y25)) rfl (nz rfl rfl) ?_
      refine WO.nil ?_
      refine WC.region ?_
      refine WO.step (v := (.int .u32 x18)) rfl (nz rfl rfl) ?_
      refine WO.step (v := (.int .u8 y25)) rfl (nz rfl rfl) ?_
      refine WO.step (v := (.int .u32 (cv .u32 y25))) rfl (nz rfl rfl) ?_
      refine WO.step (v := (.int .u32 (bXor .u32 x18 (cv .u32 y25)))) rfl (nz rfl rfl) ?_
      refine WO.step (v := (.int .u32 (ml .u32 (bXor .u32 x18 (cv .u32 y25)) 16777619))) rfl (nz rfl rfl) ?_
      refine WO.step (v := (.int .u32 (ml .u32 (bXor .u32 x18 (cv .u32 y25)) 16777619))) rfl (nz rfl rfl) ?_
      refine WO.nil ?_
      refine KX.block_n ?_
      refine KX.seq_n ?_
      refine WC.region ?_
      refine WO.step (v := (.int .i64 (ad .i64 x22 1))) rfl (nz rfl rfl) ?_
      refine WO.step (v := (.int .i64 (ad .i64 x22 1))) rfl (nz rfl rfl) ?_
      refine WO.nil ?_
      refine KX.seq_n ?_
      exact ih h  (known_cons rfl (known_cons rfl (known_cons rfl (known_cons rfl known_nil)))) (H.sub .slnil .slnil .slnil)
    · refine WC.condF rfl hc26 ?_
      refine WC.exit ?_
      refine KX.seq_x ?_
      refine KX.seq_x ?_
      obtain rfl := Option.some.inj h
      exact hbrk  (known_cons rfl known_nil) (H.sub .slnil .slnil .slnil)
theorem s140 : ∀ k : Nat, ∀ {a0 : Str} {r : Int}, F140 k a0 = some r → ∀ {vs : List PV}, vs.map PV.strip = [(.str a0)] → ∀ S : List SObj, evw env 140 vs S = some ((.int .u32 r), S, false) := by
  intro k a0 r h vs ha S
  unfold F140 at h
  refine evw_pureW (pf := fn140) rfl rfl ha (Nat.le_of_ble_eq_true rfl) rfl rfl ?_
  refine WB.of (pf := fn140) rfl ?_
  have H := Hp.start []
  refine WC.seqR ?_
  refine WO.step (v := (.int .u32 0)) rfl (nz rfl rfl) ?_
  refine WO.nil ?_
  refine WC.seqR ?_
  refine WO.step (v := (.int .u32 2166136261)) rfl (nz rfl rfl) ?_
  refine WO.nil ?_
  refine WC.seq ?_
  refine WC.seqR ?_
  refine WO.step (v := (.str a0)) rfl (nz rfl rfl) ?_
  refine WO.ex rfl (nzx rfl (stp_bytes rfl rfl rfl rfl H)) ?_
  rintro v1 S ⟨hv1, H⟩
  replace H : Hp [] [] _ [] [(v1, 1)] [] := H
  refine WO.step (v := (.int .i64 (Sl.len (Str.bytes a0)))) rfl (nz rfl (stp_len rfl hv1 rfl)) ?_
  refine WO.step (v := (.int .i64 0)) rfl (nz rfl rfl) ?_
  refine WO.nil ?_
  obtain ⟨y27, hy27, hOy27⟩ := bindS h
  refine WC.block ?_
  refine l140_L0 (hv1) ?_ hy27  (known_cons rfl (known_cons rfl (known_cons rfl (known_cons rfl known_nil)))) (H.sub .slnil (.cons _ .slnil) .slnil)
  · intro σ S  hk H; replace h := hOy27
    refine KX.of_known hk ?_
    refine KX.block_x ?_
    refine KX.seq_n ?_
    refine WC.seqR ?_
    refine WO.step (v := (.int .u32 y27.1)) rfl (nz rfl rfl) ?_
    refine WO.step (v := (.int .u32 y27.1)) rfl (nz rfl rfl) ?_
    refine WO.nil ?_
    refine WC.ret ?_
    obtain rfl := Option.some.inj h
    refine KB.ret (vs := [(.int .u32 y27.1)]) (res_tmp rfl res_nil) (fl_cons' rfl rfl) ?_
    exact rfl
-- 95 prefect/wal.Pack
/-- prefect/wal.Pack -/
def F95 (k : Nat) (a0 : Str) : Option Str :=
  Option.bind (Str.sub? a0 0 (imin (Str.len a0) 60000)) fun z1 =>
  Option.bind (F140 k z1) fun y2 =>
  Option.bind (shr? .i64 (Str.len z1) 8) fun z3 =>
  Option.bind (shr? .u32 y2 24) fun z4 =>
  Option.bind (shr? .u32 y2 16) fun z5 =>
  Option.bind (shr? .u32 y2 8) fun z6 =>
  Option.bind (Str.app? (Str.of (some [cv .u8 z3, cv .u8 (Str.len z1), cv .u8 z4, cv .u8 z5, cv .u8 z6, cv .u8 y2])) z1) fun z8 =>
  some z8
theorem s95 : ∀ k : Nat, ∀ {a0 : Str} {r : Str}, F95 k a0 = some r → ∀ {vs : List PV}, vs.map PV.strip = [(.str a0)] → ∀ S : List SObj, evw env 95 vs S = some ((.str r), S, false) := by
  intro k a0 r h vs ha S
  unfold F95 at h
  refine evw_pureW (pf := fn95) rfl rfl ha (Nat.le_of_ble_eq_true rfl) rfl rfl ?_
  refine WB.of (pf := fn95) rfl ?_
  have H := Hp.start []
  refine WC.seqR ?_
  refine WO.step (v := (.str [])) rfl (nz rfl rfl) ?_
  refine WO.nil ?_
  refine WC.seqR ?_
  refine WO.step (v := (.str a0)) rfl (nz rfl rfl) ?_
  refine WO.step (v := (.str a0)) rfl (nz rfl rfl) ?_
  refine WO.step (v := (.int .i64 (Str.len a0))) rfl (nz rfl rfl) ?_
  refine WO.step (v := (.int .i64 (imin (Str.len a0) 60000))) rfl (nz rfl rfl) ?_
  obtain ⟨z1, hz1, h⟩ := bindS h
  refine WO.step (v := (.str z1)) rfl (nz rfl (stp_subStr rfl rfl rfl rfl hz1)) ?_
  refine WO.step (v := (.str z1)) rfl (nz rfl rfl) ?_
  refine WO.nil ?_
  refine WC.seqR ?_
  refine WO.step (v := (.str z1)) rfl (nz rfl rfl) ?_
  refine WO.step (v := (.int .i64 (Str.len z1))) rfl (nz rfl rfl) ?_
  refine WO.step (v := (.str z1)) rfl (nz rfl rfl) ?_
  obtain ⟨y2, hy2, h⟩ := bindS h
  refine WO.step (v := (.int .u32 y2)) rfl (nz rfl (stp_call (vs := [(.str z1)]) rfl rfl (s140 _ hy2 rfl _))) ?_
  refine WO.step (v := (.int .i64 (Str.len z1))) rfl (nz rfl rfl) ?_
  refine WO.step (v := (.int .u32 y2)) rfl (nz rfl rfl) ?_
  refine WO.nil ?_
  refine WC.seqR ?_
  refine WO.step (v := (.int .i64 (Str.len z1))) rfl (nz rfl rfl) ?_
  obtain ⟨z3, hz3, h⟩ := bindS h
  refine WO.step (v := (.int .i64 z3)) rfl (nz rfl (stp_shr rfl rfl hz3)) ?_
  refine WO.step (v := (.int .u8 (cv .u8 z3))) rfl (nz rfl rfl) ?_
  refine WO.step (v := (.int .i64 (Str.len z1))) rfl (nz rfl rfl) ?_
  refine WO.step (v := (.int .u8 (cv .u8 (Str.len z1)))) rfl (nz rfl rfl) ?_
  refine WO.step (v := (.int .u32 y2)) rfl (nz rfl rfl) ?_
  obtain ⟨z4, hz4, h⟩ := bindS h
  refine WO.step (v := (.int .u32 z4)) rfl (nz rfl (stp_shr rfl rfl hz4)) ?_
  refine WO.step (v := (.int .u8 (cv .u8 z4))) rfl (nz rfl rfl) ?_
  refine WO.step (v := (.int .u32 y2)) rfl (nz rfl rfl) ?_
  obtain ⟨z5, hz5, h⟩ := bindS h
  refine WO.step (v := (.int .u32 z5)) rfl (nz rfl (stp_shr rfl rfl hz5)) ?_
  refine WO.step (v := (.int .u8 (cv .u8 z5))) rfl (nz rfl rfl) ?_
  refine WO.step (v := (.int .u32 y2)) rfl (nz rfl rfl) ?_
  obtain ⟨z6, hz6, h⟩ := bindS h
  refine WO.step (v := (.int .u32 z6)) rfl (nz rfl (stp_shr rfl rfl hz6)) ?_
  refine WO.step (v := (.int .u8 (cv .u8 z6))) rfl (nz rfl rfl) ?_
  refine WO.step (v := (.int .u32 y2)) rfl (nz rfl rfl) ?_
  refine WO.step (v := (.int .u8 (cv .u8 y2))) rfl (nz rfl rfl) ?_
  refine WO.step rfl (nz rfl (stp_buildSlice (ys := [cv .u8 z3, cv .u8 (Str.len z1), cv .u8 z4, cv .u8 z5, cv .u8 z6, cv .u8 y2]) (f := (eI .u8)) (parts := [(0, (.int .u8 (cv .u8 z3))), (1, (.int .u8 (cv .u8 (Str.len z1)))), (2, (.int .u8 (cv .u8 z4))), (3, (.int .u8 (cv .u8 z5))), (4, (.int .u8 (cv .u8 z6))), (5, (.int .u8 (cv .u8 y2)))]) rfl rfl rfl rfl rfl rfl (fc ⟨rfl, rfl⟩ (fc ⟨rfl, rfl⟩ (fc ⟨rfl, rfl⟩ (fc ⟨rfl, rfl⟩ (fc ⟨rfl, rfl⟩ (fc ⟨rfl, rfl⟩ (fun p hp => nomatch hp))))))) rfl)) ?_
  have hv7 : IsSl (eI .u8) (some [cv .u8 z3, cv .u8 (Str.len z1), cv .u8 z4, cv .u8 z5, cv .u8 z6, cv .u8 y2]) _ := ⟨.full, rfl⟩
  refine WO.step (v := (.str (Str.of (some [cv .u8 z3, cv .u8 (Str.len z1), cv .u8 z4, cv .u8 z5, cv .u8 z6, cv .u8 y2])))) rfl (nz (fz_tmp' hv7.frz rfl) (stp_text rfl hv7 rfl rfl rfl)) ?_
  refine WO.step (v := (.str z1)) rfl (nz rfl rfl) ?_
  obtain ⟨z8, hz8, h⟩ := bindS h
  refine WO.step (v := (.str z8)) rfl (nz rfl (stp_strApp rfl rfl hz8)) ?_
  refine WO.step (v := (.str z8)) rfl (nz rfl rfl) ?_
  refine WO.nil ?_
  refine WC.ret ?_
  obtain rfl := Option.some.inj h
  refine KB.ret (vs := [(.str z8)]) (res_tmp rfl res_nil) (fl_cons' rfl rfl) ?_
  exact rfl
end Go.Proofs.YtecimmaoilignaaGreatDoor.M.L
