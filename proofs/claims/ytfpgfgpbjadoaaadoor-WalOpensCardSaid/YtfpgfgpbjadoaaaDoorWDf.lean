/- Part of the proof: the runs of functions on the abstract machine. -/
import Derived.Test.YtfpgfgpbjadoaaaDoorPamM4
import Derived.Test.YtfpgfgpbjadoaaaDoorFns
import Derived.Test.YtfpgfgpbjadoaaaDoorWDe
import Derived.Test.YtfpgfgpbjadoaaaDoorWDc
namespace Go.Proofs.YtfpgfgpbjadoaaaDoor.M
open Go Go.Pam Go.RowKit Go.WideShapes
set_option maxRecDepth 4000
set_option linter.unusedVariables false
set_option linter.unusedSimpArgs false
-- 9 prefect/prefectref20.Scan
def F9_L0 (k : Nat) (a126 : Str) : Nat → (Sl Str) → Int → Option (Out ((Sl Str) × Int × Int) ((Sl Str) × Int))
  | 0, _, _ => none
  | n + 1, x127, x129 =>
    if decide ((ad .i64 x129 6) ≤ (Str.len a126)) then
    Option.bind (Str.at? a126 x129) fun c154 =>
    Option.bind (shl? .i64 (cv .i64 c154) 8) fun z155 =>
    Option.bind (Str.at? a126 (ad .i64 x129 1)) fun c156 =>
    if decide ((ad .i64 (ad .i64 x129 6) (bOr .i64 z155 (cv .i64 c156))) > (Str.len a126)) then
    some (Out.ret (x127, x129, 0))
    else
    Option.bind (Str.sub? a126 (ad .i64 x129 6) (ad .i64 (ad .i64 x129 6) (bOr .i64 z155 (cv .i64 c156)))) fun z158 =>
    Option.bind (Str.at? a126 (ad .i64 x129 2)) fun c159 =>
    Option.bind (shl? .u32 (cv .u32 c159) 24) fun z160 =>
    Option.bind (Str.at? a126 (ad .i64 x129 3)) fun c161 =>
    Option.bind (shl? .u32 (cv .u32 c161) 16) fun z162 =>
    Option.bind (Str.at? a126 (ad .i64 x129 4)) fun c163 =>
    Option.bind (shl? .u32 (cv .u32 c163) 8) fun z164 =>
    Option.bind (Str.at? a126 (ad .i64 x129 5)) fun c165 =>
    Option.bind (F11 k z158) fun y166 =>
    if y166 != (bOr .u32 (bOr .u32 (bOr .u32 z160 z162) z164) (cv .u32 c165)) then
    if (ad .i64 (ad .i64 x129 6) (bOr .i64 z155 (cv .i64 c156))) == (Str.len a126) then
    some (Out.ret (x127, x129, 0))
    else
    some (Out.ret (x127, x129, 24))
    else
    Option.bind (Sl.app? 16 x127 (Sl.l (some [z158]))) fun z173 =>
    F9_L0 k a126 n z173 (ad .i64 (ad .i64 x129 6) (bOr .i64 z155 (cv .i64 c156)))
    else
    some (Out.brk (x127, x129))
/-- prefect/prefectref20.Scan -/
def F9 (k : Nat) (a0 : Str) : Option ((Sl Str) × Int × Int) :=
  Option.bind (F9_L0 k a0 k none 0) fun y180 =>
  match y180 with
  | .ret y180r => some (y180r.1, y180r.2.1, y180r.2.2)
  | .brk y180b =>
  some (y180b.1, y180b.2, 0)
theorem l9_L0 {k : Nat} {a126 : Str} {S0 : List SObj} {R : List Nat} {K : KX}  {o : Out ((Sl Str) × Int × Int) ((Sl Str) × Int)}
    (hret : ∀ r : (Sl Str) × Int × Int, o = .ret r → ∀ {σ' : Nat → PV} {S' : List SObj} (v179 : PV) (_ : IsSl eS r.1 v179), Known [(2, v179), (3, (.int .i64 r.2.1)), (4, (.int .i64 r.2.2))] σ' → Hp S0 R S' [] [] [] → K .ret σ' S' false)
    (hbrk : ∀ y : (Sl Str) × Int, o = .brk y → ∀ {σ' : Nat → PV} {S' : List SObj}, ∀ (v178 : PV) (_ : IsSl eS y.1 v178), Known [(5, v178), (6, (.int .i64 y.2))] σ' → Hp S0 R S' [] [(v178, 1)] [] → K (.exit 0) σ' S' false) :
    ∀ {n : Nat} {x127 : Sl Str} {x129 : Int}, F9_L0 k a126 n x127 x129 = some o → ∀ {σ : Nat → PV} {S : List SObj}, ∀ (v128 : PV) (_ : IsSl eS x127 v128), Known [(0, (.str a126)), (5, v128), (6, (.int .i64 x129))] σ → Hp S0 R S [] [(v128, 1)] [] → WC env ⟨94, S0.length⟩ (.loop pc9L0) σ S false K := by
  intro n
  induction n with
  | zero => intro _ _ h; cases h
  | succ n ih =>
    intro x127 x129 h σ S v128 hv128 hk H
    rw [F9_L0] at h
    refine WC.loop ?_
    refine WC.of_known hk ?_
    refine WC.seq ?_
    refine WC.seqR ?_
    refine WO.step (v := (.int .i64 x129)) rfl (nz rfl rfl) ?_
    refine WO.step (v := (.int .i64 (ad .i64 x129 6))) rfl (nz rfl rfl) ?_
    refine WO.step (v := (.str a126)) rfl (nz rfl rfl) ?_
    refine WO.step (v := (.int .i64 (Str.len a126))) rfl (nz rfl rfl) ?_
    refine WO.step (v := (.bool (decide ((ad .i64 x129 6) ≤ (Str.len a126))))) rfl (nz rfl rfl) ?_
    refine WO.nil ?_
    rcases iteS h with ⟨hc177, h⟩ | ⟨hc177, h⟩
    · refine WC.condT rfl hc177 ?_
      refine WC.skip ?_
      refine KX.seq_n ?_
      refine WC.block ?_
      refine WC.seq ?_
      refine WC.draw ?_
      refine WH.step (v := (.str a126)) rfl (nz rfl rfl) rfl rfl ?_
      refine WH.step (v := (.int .i64 x129)) rfl (nz rfl rfl) rfl rfl ?_
      obtain ⟨c154, hc154, h⟩ := bindS h
      refine WH.step (v := (.int .u8 c154)) rfl (nz rfl (stp_idxStr rfl rfl rfl hc154)) rfl rfl ?_
      refine WH.step (v := (.int .i64 (cv .i64 c154))) rfl (nz rfl rfl) rfl rfl ?_
      obtain ⟨z155, hz155, h⟩ := bindS h
      refine WH.step (v := (.int .i64 z155)) rfl (nz rfl (stp_shl rfl rfl hz155)) rfl rfl ?_
      refine WH.step (v := (.str a126)) rfl (nz rfl rfl) rfl rfl ?_
      refine WH.step (v := (.int .i64 x129)) rfl (nz rfl rfl) rfl rfl ?_
      refine WH.step (v := (.int .i64 (ad .i64 x129 1))) rfl (nz rfl rfl) rfl rfl ?_
      obtain ⟨c156, hc156, h⟩ := bindS h
      refine WH.step (v := (.int .u8 c156)) rfl (nz rfl (stp_idxStr rfl rfl rfl hc156)) rfl rfl ?_
      refine WH.step (v := (.int .i64 (cv .i64 c156))) rfl (nz rfl rfl) rfl rfl ?_
      refine WH.nil ?_
      refine WO.step (v := (.int .i64 (bOr .i64 z155 (cv .i64 c156)))) rfl (nz rfl rfl) ?_
      refine WO.step (v := (.int .i64 (bOr .i64 z155 (cv .i64 c156)))) rfl (nz rfl rfl) ?_
      refine WO.nil ?_
      refine KX.seq_n ?_
      refine WC.seq ?_
      refine WC.seqR ?_
      refine WO.step (v := (.int .i64 x129)) rfl (nz rfl rfl) ?_
      refine WO.step (v := (.int .i64 (ad .i64 x129 6))) rfl (nz rfl rfl) ?_
      refine WO.step (v := (.int .i64 (bOr .i64 z155 (cv .i64 c156)))) rfl (nz rfl rfl) ?_
      refine WO.step (v := (.int .i64 (ad .i64 (ad .i64 x129 6) (bOr .i64 z155 (cv .i64 c156))))) rfl (nz rfl rfl) ?_
      refine WO.step (v := (.str a126)) rfl (nz rfl rfl) ?_
      refine WO.step (v := (.int .i64 (Str.len a126))) rfl (nz rfl rfl) ?_
      refine WO.step (v := (.bool (decide ((ad .i64 (ad .i64 x129 6) (bOr .i64 z155 (cv .i64 c156))) > (Str.len a126))))) rfl (nz rfl rfl) ?_
      refine WO.nil ?_
      rcases iteS h with ⟨hc176, h⟩ | ⟨hc176, h⟩
      · refine WC.condT rfl hc176 ?_
        refine WC.seqR ?_
        refine WO.step (v := v128) rfl (nz rfl rfl) ?_
        refine WO.step (v := (.int .i64 x129)) rfl (nz rfl rfl) ?_
        refine WO.step (v := v128) rfl (nz rfl rfl) ?_
        refine WO.step (v := (.int .i64 x129)) rfl (nz rfl rfl) ?_
        refine WO.step (v := (.int .i64 0)) rfl (nz rfl rfl) ?_
        refine WO.nil ?_
        refine WC.ret ?_
        refine KX.seq_r ?_
        refine KX.block_r ?_
        refine KX.seq_r ?_
        obtain rfl := Option.some.inj h
        exact hret _ rfl v128 (hv128) (known_cons rfl (known_cons rfl (known_cons rfl known_nil))) (H.sub .slnil (.cons _ .slnil) .slnil)
      · refine WC.condF rfl hc176 ?_
        refine WC.skip ?_
        refine KX.seq_n ?_
        refine WC.seqR ?_
        refine WO.step (v := (.str a126)) rfl (nz rfl rfl) ?_
        refine WO.step (v := (.int .i64 x129)) rfl (nz rfl rfl) ?_
        refine WO.step (v := (.int .i64 (ad .i64 x129 6))) rfl (nz rfl rfl) ?_
        refine WO.step (v := (.int .i64 x129)) rfl (nz rfl rfl) ?_
        refine WO.step (v := (.int .i64 (ad .i64 x129 6))) rfl (nz rfl rfl) ?_
        refine WO.step (v := (.int .i64 (bOr .i64 z155 (cv .i64 c156)))) rfl (nz rfl rfl) ?_
        refine WO.step (v := (.int .i64 (ad .i64 (ad .i64 x129 6) (bOr .i64 z155 (cv .i64 c156))))) rfl (nz rfl rfl) ?_
        obtain ⟨z158, hz158, h⟩ := bindS h
        refine WO.step (v := (.str z158)) rfl (nz rfl (stp_subStr rfl rfl rfl rfl hz158)) ?_
        refine WO.step (v := (.str z158)) rfl (nz rfl rfl) ?_
        refine WO.nil ?_
        refine WC.seq ?_
        refine WC.draw ?_
        refine WH.step (v := (.str a126)) rfl (nz rfl rfl) rfl rfl ?_
        refine WH.step (v := (.int .i64 x129)) rfl (nz rfl rfl) rfl rfl ?_
        refine WH.step (v := (.int .i64 (ad .i64 x129 2))) rfl (nz rfl rfl) rfl rfl ?_
        obtain ⟨c159, hc159, h⟩ := bindS h
        refine WH.step (v := (.int .u8 c159)) rfl (nz rfl (stp_idxStr rfl rfl rfl hc159)) rfl rfl ?_
        refine WH.step (v := (.int .u32 (cv .u32 c159))) rfl (nz rfl rfl) rfl rfl ?_
        obtain ⟨z160, hz160, h⟩ := bindS h
        refine WH.step (v := (.int .u32 z160)) rfl (nz rfl (stp_shl rfl rfl hz160)) rfl rfl ?_
        refine WH.step (v := (.str a126)) rfl (nz rfl rfl) rfl rfl ?_
        refine WH.step (v := (.int .i64 x129)) rfl (nz rfl rfl) rfl rfl ?_
        refine WH.step (v := (.int .i64 (ad .i64 x129 3))) rfl (nz rfl rfl) rfl rfl ?_
        obtain ⟨c161, hc161, h⟩ := bindS h
        refine WH.step (v := (.int .u8 c161)) rfl (nz rfl (stp_idxStr rfl rfl rfl hc161)) rfl rfl ?_
        refine WH.step (v := (.int .u32 (cv .u32 c161))) rfl (nz rfl rfl) rfl rfl ?_
        obtain ⟨z162, hz162, h⟩ := bindS h
        refine WH.step (v := (.int .u32 z162)) rfl (nz rfl (stp_shl rfl rfl hz162)) rfl rfl ?_
        refine WH.step (v := (.int .u32 (bOr .u32 z160 z162))) rfl (nz rfl rfl) rfl rfl ?_
        refine WH.step (v := (.str a126)) rfl (nz rfl rfl) rfl rfl ?_
        refine WH.step (v := (.int .i64 x129)) rfl (nz rfl rfl) rfl rfl ?_
        refine WH.step (v := (.int .i64 (ad .i64 x129 4))) rfl (nz rfl rfl) rfl rfl ?_
        obtain ⟨c163, hc163, h⟩ := bindS h
        refine WH.step (v := (.int .u8 c163)) rfl (nz rfl (stp_idxStr rfl rfl rfl hc163)) rfl rfl ?_
        refine WH.step (v := (.int .u32 (cv .u32 c163))) rfl (nz rfl rfl) rfl rfl ?_
        obtain ⟨z164, hz164, h⟩ := bindS h
        refine WH.step (v := (.int .u32 z164)) rfl (nz rfl (stp_shl rfl rfl hz164)) rfl rfl ?_
        refine WH.step (v := (.int .u32 (bOr .u32 (bOr .u32 z160 z162) z164))) rfl (nz rfl rfl) rfl rfl ?_
        refine WH.step (v := (.str a126)) rfl (nz rfl rfl) rfl rfl ?_
        refine WH.step (v := (.int .i64 x129)) rfl (nz rfl rfl) rfl rfl ?_
        refine WH.step (v := (.int .i64 (ad .i64 x129 5))) rfl (nz rfl rfl) rfl rfl ?_
        obtain ⟨c165, hc165, h⟩ := bindS h
        refine WH.step (v := (.int .u8 c165)) rfl (nz rfl (stp_idxStr rfl rfl rfl hc165)) rfl rfl ?_
        refine WH.step (v := (.int .u32 (cv .u32 c165))) rfl (nz rfl rfl) rfl rfl ?_
        refine WH.nil ?_
        refine WO.step (v := (.int .u32 (bOr .u32 (bOr .u32 (bOr .u32 z160 z162) z164) (cv .u32 c165)))) rfl (nz rfl rfl) ?_
        refine WO.step (v := (.int .u32 (bOr .u32 (bOr .u32 (bOr .u32 z160 z162) z164) (cv .u32 c165)))) rfl (nz rfl rfl) ?_
        refine WO.nil ?_
        refine KX.seq_n ?_
        refine WC.seq ?_
        refine WC.seqR ?_
        refine WO.step (v := (.str z158)) rfl (nz rfl rfl) ?_
        obtain ⟨y166, hy166, h⟩ := bindS h
        refine WO.step (v := (.int .u32 y166)) rfl (nz rfl (stp_call (vs := [(.str z158)]) rfl rfl (s11 _ hy166 rfl _))) ?_
        refine WO.step (v := (.int .u32 (bOr .u32 (bOr .u32 (bOr .u32 z160 z162) z164) (cv .u32 c165)))) rfl (nz rfl rfl) ?_
        refine WO.step (v := (.bool (y166 != (bOr .u32 (bOr .u32 (bOr .u32 z160 z162) z164) (cv .u32 c165))))) rfl (nz rfl rfl) ?_
        refine WO.nil ?_
        rcases iteS h with ⟨hc175, h⟩ | ⟨hc175, h⟩
        · refine WC.condT rfl hc175 ?_
          refine WC.seq ?_
          refine WC.seqR ?_
          refine WO.step (v := (.int .i64 x129)) rfl (nz rfl rfl) ?_
          refine WO.step (v := (.int .i64 (ad .i64 x129 6))) rfl (nz rfl rfl) ?_
          refine WO.step (v := (.int .i64 (bOr .i64 z155 (cv .i64 c156)))) rfl (nz rfl rfl) ?_
          refine WO.step (v := (.int .i64 (ad .i64 (ad .i64 x129 6) (bOr .i64 z155 (cv .i64 c156))))) rfl (nz rfl rfl) ?_
          refine WO.step (v := (.str a126)) rfl (nz rfl rfl) ?_
          refine WO.step (v := (.int .i64 (Str.len a126))) rfl (nz rfl rfl) ?_
          refine WO.step (v := (.bool ((ad .i64 (ad .i64 x129 6) (bOr .i64 z155 (cv .i64 c156))) == (Str.len a126)))) rfl (nz rfl rfl) ?_
          refine WO.nil ?_
          rcases iteS h with ⟨hc171, h⟩ | ⟨hc171, h⟩
          · refine WC.condT rfl hc171 ?_
            refine WC.seqR ?_
            refine WO.step (v := v128) rfl (nz rfl rfl) ?_
            refine WO.step (v := (.int .i64 x129)) rfl (nz rfl rfl) ?_
            refine WO.step (v := v128) rfl (nz rfl rfl) ?_
            refine WO.step (v := (.int .i64 x129)) rfl (nz rfl rfl) ?_
            refine WO.step (v := (.int .i64 0)) rfl (nz rfl rfl) ?_
            refine WO.nil ?_
            refine WC.ret ?_
            refine KX.seq_r ?_
            refine KX.seq_r ?_
            refine KX.block_r ?_
            refine KX.seq_r ?_
            obtain rfl := Option.some.inj h
            exact hret _ rfl v128 (hv128) (known_cons rfl (known_cons rfl (known_cons rfl known_nil))) (H.sub .slnil (.cons _ .slnil) .slnil)
          · refine WC.condF rfl hc171 ?_
            refine WC.skip ?_
            refine KX.seq_n ?_
            refine WC.seqR ?_
            refine WO.step (v := v128) rfl (nz rfl rfl) ?_
            refine WO.step (v := (.int .i64 x129)) rfl (nz rfl rfl) ?_
            refine WO.step (v := v128) rfl (nz rfl rfl) ?_
            refine WO.step (v := (.int .i64 x129)) rfl (nz rfl rfl) ?_
            refine WO.step (v := (.int .i64 24)) rfl (nz rfl rfl) ?_
            refine WO.nil ?_
            refine WC.ret ?_
            refine KX.seq_r ?_
            refine KX.block_r ?_
            refine KX.seq_r ?_
            obtain rfl := Option.some.inj h
            exact hret _ rfl v128 (hv128) (known_cons rfl (known_cons rfl (known_cons rfl known_nil))) (H.sub .slnil (.cons _ .slnil) .slnil)
        · refine WC.condF rfl hc175 ?_
          refine WC.skip ?_
          refine KX.seq_n ?_
          refine WC.seqR ?_
          refine WO.step (v := v128) rfl (nz rfl rfl) ?_
          refine WO.step (v := (.str z158)) rfl (nz rfl rfl) ?_
          refine WO.step rfl (nz rfl (stp_buildSlice (ys := [z158]) (f := eS) (parts := [(0, (.str z158))]) rfl rfl rfl rfl rfl rfl (fc ⟨rfl, rfl⟩ (fun p hp => nomatch hp)) rfl)) ?_
          have hv172 : IsSl eS (some [z158]) _ := ⟨.full, rfl⟩
          obtain ⟨z173, hz173, h⟩ := bindS h
          refine WO.ex rfl (nzx (fz_tmp' hv172.frz rfl) (stp_app (f := eS) (ei := ty9) H 0 rfl rfl hv128 rfl hv172 rfl rfl rfl rfl (fun _ => rfl) hz173)) ?_
          rintro v174 S ⟨hv174, H⟩
          replace H : Hp S0 R _ [] [(v174, 1)] [] := H
          refine WO.step (v := v174) rfl (nz rfl rfl) ?_
          refine WO.nil ?_
          refine WC.region ?_
          refine WO.step (v := (.int .i64 x129)) rfl (nz rfl rfl) ?_
          refine WO.step (v := (.int .i64 (ad .i64 x129 6))) rfl (nz rfl rfl) ?_
          refine WO.step (v := (.int .i64 (bOr .i64 z155 (cv .i64 c156)))) rfl (nz rfl rfl) ?_
          refine WO.step (v := (.int .i64 (ad .i64 (ad .i64 x129 6) (bOr .i64 z155 (cv .i64 c156))))) rfl (nz rfl rfl) ?_
          refine WO.step (v := (.int .i64 (ad .i64 (ad .i64 x129 6) (bOr .i64 z155 (cv .i64 c156))))) rfl (nz rfl rfl) ?_
          refine WO.nil ?_
          refine KX.block_n ?_
          refine KX.seq_n ?_
          exact ih h v174 (hv174) (known_cons rfl (known_cons rfl (known_cons rfl known_nil))) (H.sub .slnil (.cons_cons _ .slnil) .slnil)
    · refine WC.condF rfl hc177 ?_
      refine WC.exit ?_
      refine KX.seq_x ?_
      refine KX.seq_x ?_
      obtain rfl := Option.some.inj h
      exact hbrk _ rfl v128 (hv128) (known_cons rfl (known_cons rfl known_nil)) (H.sub .slnil (.cons_cons _ .slnil) .slnil)
theorem s9 : ∀ k : Nat, ∀ {a0 : Str} {r : (Sl Str) × Int × Int}, F9 k a0 = some r → ∀ {vs : List PV}, vs.map PV.strip = [(.str a0)] → ∀ S : List SObj, evw env 9 vs S = some ((.tup [(encSl eS r.1), (.int .i64 r.2.1), (.int .i64 r.2.2)]), S, false) := by
  intro k a0 r h vs ha S
  unfold F9 at h
  refine evw_pureW (pf := fn9) rfl rfl ha (Nat.le_of_ble_eq_true rfl) rfl (by simp [PV.clean, cleanL, clean_encSl clean_eS]) ?_
  refine WB.of (pf := fn9) rfl ?_
  have H := Hp.start []
  refine WC.seqR ?_
  refine WO.step (v := .nils) rfl (nz rfl rfl) ?_
  refine WO.step (v := (.int .i64 0)) rfl (nz rfl rfl) ?_
  refine WO.step (v := (.int .i64 0)) rfl (nz rfl rfl) ?_
  refine WO.nil ?_
  refine WC.seqR ?_
  refine WO.step (v := .nils) rfl (nz rfl rfl) ?_
  refine WO.nil ?_
  refine WC.seqR ?_
  refine WO.step (v := (.int .i64 0)) rfl (nz rfl rfl) ?_
  refine WO.nil ?_
  refine WC.seq ?_
  obtain ⟨y180, hy180, hOy180⟩ := bindS h
  refine WC.block ?_
  have H := H.addNil 1
  refine l9_L0 ?_ ?_ hy180 .nils ((isSl_nil _)) (known_cons rfl (known_cons rfl (known_cons rfl known_nil))) (H.sub .slnil (.cons_cons _ .slnil) .slnil)
  · intro y180r he σ S v182 hv182 hk H; subst he; replace h := hOy180; dsimp only at h
    refine KX.of_known hk ?_
    refine KX.block_r ?_
    refine KX.seq_r ?_
    obtain rfl := Option.some.inj h
    refine KB.ret (vs := [v182, (.int .i64 y180r.2.1), (.int .i64 y180r.2.2)]) (res_tmp rfl (res_tmp rfl (res_tmp rfl res_nil))) (fl_cons' hv182.frz (fl_cons' rfl (fl_cons' rfl rfl))) ?_
    exact (by simp only [st_tup, List.map_cons, List.map_nil, tupled, hv182.strip2, st2_int])
  · intro y180b he σ S v181 hv181 hk H; subst he; replace h := hOy180; dsimp only at h
    refine KX.of_known hk ?_
    refine KX.block_x ?_
    refine KX.seq_n ?_
    refine WC.seqR ?_
    refine WO.step (v := v181) rfl (nz rfl rfl) ?_
    refine WO.step (v := (.int .i64 y180b.2)) rfl (nz rfl rfl) ?_
    refine WO.step (v := v181) rfl (nz rfl rfl) ?_
    refine WO.step (v := (.int .i64 y180b.2)) rfl (nz rfl rfl) ?_
    refine WO.step (v := (.int .i64 0)) rfl (nz rfl rfl) ?_
    refine WO.nil ?_
    refine WC.ret ?_
    obtain rfl := Option.some.inj h
    refine KB.ret (vs := [v181, (.int .i64 y180b.2), (.int .i64 0)]) (res_tmp rfl (res_tmp rfl (res_tmp rfl res_nil))) (fl_cons' hv181.frz (fl_cons' rfl (fl_cons' rfl rfl))) ?_
    exact (by simp only [st_tup, List.map_cons, List.map_nil, tupled, hv181.strip2, st2_int])
end Go.Proofs.YtfpgfgpbjadoaaaDoor.M
