/- Part of the proof: the runs of functions on the abstract machine. -/
import Derived.Test.YtecimmaoilignaaGreatDoorPamM4
import Derived.Test.YtecimmaoilignaaGreatDoorSL
import Derived.Test.YtecimmaoilignaaGreatDoorSDe
import Derived.Test.YtecimmaoilignaaGreatDoorSDc
import Derived.Test.YtecimmaoilignaaGreatDoorSDr
namespace Go.Proofs.YtecimmaoilignaaGreatDoor.M.L
open Go Go.Pam Go.RowKit Go.WideShapes
set_option maxRecDepth 4000
set_option linter.unusedVariables false
set_option linter.unusedSimpArgs false
-- 64 prefect/wal.Scan
def F64_L0 (k : Nat) (a62 : Str) : Nat → (Sl Str) → Int → Option (Out ((Sl Str) × Int × Int) ((Sl Str) × Int))
  | 0, _, _ => none
  | n + 1, x63, x65 =>
    Option.bind (Str.sub? a62 x65 (Str.len a62)) fun z78 =>
    Option.bind (F108 k z78 x65) fun y79 =>
    match y79.2 with
    | .nil =>
    Option.bind (Sl.app? 16 x63 (Sl.l (some [y79.1]))) fun z82 =>
    F64_L0 k a62 n z82 (ad .i64 x65 (ad .i64 6 (Str.len y79.1)))
    | .no en84 =>
    none
    | .at en84 ea85 =>
    if en84 == 24 then
    some (Out.ret (x63, ea85, 24))
    else
    some (Out.ret (x63, x65, 0))
/-- prefect/wal.Scan -/
def F64 (k : Nat) (a0 : Str) : Option ((Sl Str) × Int × Int) :=
  Option.bind (F64_L0 k a0 k none 0) fun y92 =>
  match y92 with
  | .ret y92r => some (y92r.1, y92r.2.1, y92r.2.2)
  | .brk y92b =>
  none
theorem l64_L0 {k : Nat} {a62 : Str} {S0 : List SObj} {R : List Nat} {K : KX}  {o : Out ((Sl Str) × Int × Int) ((Sl Str) × Int)}
    (hret : ∀ r : (Sl Str) × Int × Int, o = .ret r → ∀ {σ' : Nat → PV} {S' : List SObj} (v91 : PV) (_ : IsSl eS r.1 v91), Known [(2, v91), (3, (.int .i64 r.2.1)), (4, (.int .i64 r.2.2))] σ' → Hp S0 R S' [] [] [] → K .ret σ' S' true)
    (hbrk : ∀ y : (Sl Str) × Int, o = .brk y → ∀ {σ' : Nat → PV} {S' : List SObj}, ∀ (v90 : PV) (_ : IsSl eS y.1 v90), Known [(5, v90)] σ' → Hp S0 R S' [] [(v90, 1)] [] → K (.exit 0) σ' S' true) :
    ∀ {n : Nat} {x63 : Sl Str} {x65 : Int}, F64_L0 k a62 n x63 x65 = some o → ∀ {σ : Nat → PV} {S : List SObj}, ∀ (v64 : PV) (_ : IsSl eS x63 v64), Known [(0, (.str a62)), (5, v64), (6, (.int .i64 x65))] σ → Hp S0 R S [] [(v64, 1)] [] → WC env ⟨46, S0.length⟩ (.loop pc64L0) σ S true K := by
  intro n
  induction n with
  | zero => intro _ _ h; cases h
  | succ n ih =>
    intro x63 x65 h σ S v64 hv64 hk H
    rw [F64_L0] at h
    refine WC.loop ?_
    refine WC.of_known hk ?_
    refine WC.block ?_
    refine WC.seqR ?_
    refine WO.step (v := (.str a62)) rfl (nz rfl rfl) ?_
    refine WO.step (v := (.int .i64 x65)) rfl (nz rfl rfl) ?_
    obtain ⟨z78, hz78, h⟩ := bindS h
    refine WO.step (v := (.str z78)) rfl (nz rfl (stp_subStr rfl rfl rfl rfl hz78)) ?_
    refine WO.step (v := (.int .i64 x65)) rfl (nz rfl rfl) ?_
    obtain ⟨y79, hy79, h⟩ := bindS h
    refine WO.callE (TE := 27) (TP := 79) (mk := fun v => .tup [(.str y79.1), v]) rfl rfl rfl rfl H (s108 _ hy79 _) ?_ ?_ ?_
    · intro hE; rw [hE] at h; dsimp only at h
      refine WO.step (v := (.tup [(.str y79.1), .nili])) rfl (nz rfl rfl) ?_
      refine WO.step (v := (.str y79.1)) rfl (nz rfl rfl) ?_
      refine WO.step (v := .nili) rfl (nz rfl rfl) ?_
      refine WO.step (v := (.str y79.1)) rfl (nz rfl rfl) ?_
      refine WO.step (v := .nili) rfl (nz rfl rfl) ?_
      refine WO.nil ?_
      refine WC.seqR ?_
      refine WO.alloc' (ti := ty79) rfl rfl rfl rfl H ?_
      intro i80 S hi80 H
      refine WO.nil ?_
      refine WC.seq ?_
      refine WC.block ?_
      refine WC.seqR ?_
      refine WO.step (v := .nili) rfl (nz rfl rfl) ?_
      refine WO.step (v := (.ifc 27 (.int .i64 24))) rfl (nz rfl rfl) ?_
      refine WO.step (v := (.bool false)) rfl (nz rfl (stp_call (vs := [.nili, (.ifc 27 (.int .i64 24))]) rfl rfl (evw_isFltN rfl _ _))) ?_
      refine WO.step (v := (.bool false)) rfl (nz rfl rfl) ?_
      refine WO.by rfl rfl rfl ?_
      refine WO.by rfl rfl rfl ?_
      refine WO.by rfl rfl rfl ?_
      refine WO.step (v := (.bool false)) rfl (nz rfl rfl) ?_
      refine WO.step (v := (.bool false)) rfl (nz rfl rfl) ?_
      refine WO.nil ?_
      refine WC.condF rfl rfl ?_
      refine WC.seqR ?_
      refine WO.step (v := .nili) rfl (nz rfl rfl) ?_
      refine WO.step (v := (.bool false)) rfl (nz rfl rfl) ?_
      refine WO.step (v := (.bool false)) rfl (nz rfl rfl) ?_
      refine WO.nil ?_
      refine WC.condF rfl rfl ?_
      refine WC.skip ?_
      refine KX.block_n ?_
      refine KX.seq_n ?_
      refine WC.seqR ?_
      refine WO.step (v := v64) rfl (nz rfl rfl) ?_
      refine WO.step (v := (.str y79.1)) rfl (nz rfl rfl) ?_
      refine WO.step rfl (nz rfl (stp_buildSlice (ys := [y79.1]) (f := eS) (parts := [(0, (.str y79.1))]) rfl rfl rfl rfl rfl rfl (fc ⟨rfl, rfl⟩ (fun p hp => nomatch hp)) rfl)) ?_
      have hv81 : IsSl eS (some [y79.1]) _ := ⟨.full, rfl⟩
      obtain ⟨z82, hz82, h⟩ := bindS h
      refine WO.ex rfl (nzx (fz_tmp' hv81.frz rfl) (stp_app (f := eS) (ei := ty9) H 0 rfl rfl hv64 rfl hv81 rfl rfl rfl rfl (fun _ => rfl) hz82)) ?_
      rintro v83 S ⟨hv83, H⟩
      replace H : Hp S0 R _ [(i80, .cells [.nilp])] [(v83, 1)] [] := H
      refine WO.step (v := v83) rfl (nz rfl rfl) ?_
      refine WO.nil ?_
      refine WC.region ?_
      refine WO.step (v := (.int .i64 x65)) rfl (nz rfl rfl) ?_
      refine WO.step (v := (.str y79.1)) rfl (nz rfl rfl) ?_
      refine WO.step (v := (.int .i64 (Str.len y79.1))) rfl (nz rfl rfl) ?_
      refine WO.step (v := (.int .i64 (ad .i64 6 (Str.len y79.1)))) rfl (nz rfl rfl) ?_
      refine WO.step (v := (.int .i64 (ad .i64 x65 (ad .i64 6 (Str.len y79.1))))) rfl (nz rfl rfl) ?_
      refine WO.step (v := (.int .i64 (ad .i64 x65 (ad .i64 6 (Str.len y79.1))))) rfl (nz rfl rfl) ?_
      refine WO.nil ?_
      refine KX.block_n ?_
      refine KX.seq_n ?_
      exact ih h v83 (hv83) (known_cons rfl (known_cons rfl (known_cons rfl known_nil))) (H.sub (.cons _ .slnil) (.cons_cons _ .slnil) .slnil)
    · intro en84 hE; rw [hE] at h; dsimp only at h
      cases h
    · intro en84 ea85 hE i86 S hi86 H; rw [hE] at h; dsimp only at h
      refine WO.step (v := (.tup [(.str y79.1), (.ifc 79 (.ptr i86 0))])) rfl (nz rfl rfl) ?_
      refine WO.step (v := (.str y79.1)) rfl (nz rfl rfl) ?_
      refine WO.step (v := (.ifc 79 (.ptr i86 0))) rfl (nz rfl rfl) ?_
      refine WO.step (v := (.str y79.1)) rfl (nz rfl rfl) ?_
      refine WO.step (v := (.ifc 79 (.ptr i86 0))) rfl (nz rfl rfl) ?_
      refine WO.nil ?_
      refine WC.seqR ?_
      refine WO.alloc' (ti := ty79) rfl rfl rfl rfl H ?_
      intro i87 S hi87 H
      refine WO.nil ?_
      refine WC.seq ?_
      refine WC.block ?_
      refine WC.seqR ?_
      refine WO.step (v := (.ifc 79 (.ptr i86 0))) rfl (nz rfl rfl) ?_
      refine WO.step (v := (.ifc 27 (.int .i64 24))) rfl (nz rfl rfl) ?_
      refine WO.step (v := (.bool (en84 == 24))) rfl (nz rfl (stp_call (vs := [(.ifc 79 (.ptr i86 0)), (.ifc 27 (.int .i64 24))]) rfl rfl (evw_isFlt rfl _ (H.get 1 rfl)))) ?_
      refine WO.step (v := (.bool (en84 == 24))) rfl (nz rfl rfl) ?_
      revert H
      cases hc89 : (en84 == 24)
      · intro H
        replace h := iteF h hc89
        refine WO.by rfl rfl rfl ?_
        refine WO.by rfl rfl rfl ?_
        refine WO.by rfl rfl rfl ?_
        refine WO.step (v := (.bool false)) rfl (nz rfl rfl) ?_
        refine WO.step (v := (.bool false)) rfl (nz rfl rfl) ?_
        refine WO.nil ?_
        refine WC.condF rfl rfl ?_
        refine WC.seqR ?_
        refine WO.step (v := (.ifc 79 (.ptr i86 0))) rfl (nz rfl rfl) ?_
        refine WO.step (v := (.bool true)) rfl (nz rfl rfl) ?_
        refine WO.step (v := (.bool true)) rfl (nz rfl rfl) ?_
        refine WO.nil ?_
        refine WC.condT rfl rfl ?_
        refine WC.seqR ?_
        refine WO.step (v := v64) rfl (nz rfl rfl) ?_
        refine WO.step (v := (.int .i64 x65)) rfl (nz rfl rfl) ?_
        refine WO.step (v := v64) rfl (nz rfl rfl) ?_
        refine WO.step (v := (.int .i64 x65)) rfl (nz rfl rfl) ?_
        refine WO.step (v := (.int .i64 0)) rfl (nz rfl rfl) ?_
        refine WO.nil ?_
        refine WC.ret ?_
        refine KX.block_r ?_
        refine KX.seq_r ?_
        refine KX.block_r ?_
        refine KX.seq_r ?_
        obtain rfl := Option.some.inj h
        exact hret _ rfl v64 (hv64) (known_cons rfl (known_cons rfl (known_cons rfl known_nil))) (H.sub (.cons _ (.cons _ .slnil)) (.cons _ .slnil) .slnil)
      · intro H
        replace h := iteT h hc89
        refine WO.go0 rfl rfl ?_
        refine WO.step (v := (.ifc 79 (.ptr i86 0))) rfl (nz rfl rfl) ?_
        refine WO.go0 rfl rfl ?_
        refine WO.step (v := (.ifc 81 (.ptr i87 0))) rfl (nz rfl rfl) ?_
        refine WO.go0 rfl rfl ?_
        refine WO.callAsP 0 (TP := 79) (TT := 81) rfl rfl rfl rfl H rfl rfl ?_
        intro S H
        replace H : Hp S0 R _ [(i87, .cells [(.ptr i86 0)]), (i86, .cells [(.ifc 27 (.int .i64 en84)), (.int .i64 ea85)])] [(v64, 1)] [] := H
        refine WO.step (v := (.bool true)) rfl (nz rfl rfl) ?_
        refine WO.step (v := (.bool true)) rfl (nz rfl rfl) ?_
        refine WO.nil ?_
        refine WC.condT rfl rfl ?_
        refine WC.seq ?_
        refine WC.draw ?_
        refine WH.step (v := v64) rfl (nz rfl rfl) rfl rfl ?_
        refine WH.step (v := (.ptr i86 0)) rfl (nz rfl (stp_load rfl (H.get 0 rfl) rfl)) rfl rfl ?_
        refine WH.step (v := (.ptr i86 0)) rfl (nz rfl rfl) rfl rfl ?_
        refine WH.step (v := (.ptr i86 1)) rfl (nz rfl rfl) rfl rfl ?_
        refine WH.step (v := (.int .i64 ea85)) rfl (nz rfl (stp_load rfl (H.get 1 rfl) rfl)) rfl rfl ?_
        refine WH.step (v := v64) rfl (nz rfl rfl) rfl rfl ?_
        refine WH.nil ?_
        refine WO.step (v := (.int .i64 ea85)) rfl (nz rfl rfl) ?_
        refine WO.step (v := (.int .i64 24)) rfl (nz rfl rfl) ?_
        refine WO.nil ?_
        refine KX.seq_n ?_
        refine WC.ret ?_
        refine KX.block_r ?_
        refine KX.seq_r ?_
        refine KX.block_r ?_
        refine KX.seq_r ?_
        obtain rfl := Option.some.inj h
        exact hret _ rfl v64 (hv64) (known_cons rfl (known_cons rfl (known_cons rfl known_nil))) (H.sub (.cons _ (.cons _ .slnil)) (.cons _ .slnil) .slnil)
theorem s64 : ∀ k : Nat, ∀ {a0 : Str} {r : (Sl Str) × Int × Int}, F64 k a0 = some r → ∀ {vs : List PV}, vs.map PV.strip = [(.str a0)] → ∀ S : List SObj, evw env 64 vs S = some ((.tup [(encSl eS r.1), (.int .i64 r.2.1), (.int .i64 r.2.2)]), S, false) := by
  intro k a0 r h vs ha S
  unfold F64 at h
  refine evw_pureW (pf := fn64) rfl rfl ha (Nat.le_of_ble_eq_true rfl) rfl (by simp [PV.clean, cleanL, clean_encSl clean_eS]) ?_
  refine WB.ofE (K := fun v _ => v.strip = _) (pf := fn64) rfl ?_
  have H := Hp.start []
  refine WC.seqR ?_
  refine WO.step (v := .nils) rfl (nz rfl rfl) ?_
  refine WO.step (v := (.int .i64 0)) rfl (nz rfl rfl) ?_
  refine WO.step (v := (.int .i64 0)) rfl (nz rfl rfl) ?_
  refine WO.nil ?_
  refine WC.seqR ?_
  refine WO.step (v := .nils) rfl (nz rfl rfl) ?_
  refine WO.nil ?_
  refine WC.seqR ?_
  refine WO.step (v := (.int .i64 0)) rfl (nz rfl rfl) ?_
  refine WO.nil ?_
  obtain ⟨y92, hy92, hOy92⟩ := bindS h
  refine WC.block ?_
  have H := H.addNil 1
  refine l64_L0 ?_ ?_ hy92 .nils ((isSl_nil _)) (known_cons rfl (known_cons rfl (known_cons rfl known_nil))) (H.sub .slnil (.cons_cons _ .slnil) .slnil)
  · intro y92r he σ S v94 hv94 hk H; subst he; replace h := hOy92; dsimp only at h
    refine KX.of_known hk ?_
    refine KX.block_r ?_
    obtain rfl := Option.some.inj h
    refine KB.ret (vs := [v94, (.int .i64 y92r.2.1), (.int .i64 y92r.2.2)]) (res_tmp rfl (res_tmp rfl (res_tmp rfl res_nil))) (fl_cons' hv94.frz (fl_cons' rfl (fl_cons' rfl rfl))) ?_
    exact (by simp only [st_tup, List.map_cons, List.map_nil, tupled, hv94.strip2, st2_int])
  · intro y92b he σ S v93 hv93 hk H; subst he; replace h := hOy92; dsimp only at h
    refine KX.of_known hk ?_
    refine KX.block_x ?_
    cases h
end Go.Proofs.YtecimmaoilignaaGreatDoor.M.L
