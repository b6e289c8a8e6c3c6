/- StoreNumbers: the law's run. -/
import Derived.Test.YtecimmaoilignaaGreatDoorSMk
import Derived.Test.YtecimmaoilignaaGreatDoorSW7
namespace Go.Proofs.YtecimmaoilignaaGreatDoor.M.L
open Go Go.Pam Go.RowKit
set_option maxRecDepth 4000
set_option linter.unusedSimpArgs false
set_option linter.unusedVariables false
theorem runs {rep op : Int} {cl : Sl Int} (hrep : 0 ≤ rep ∧ rep ≤ 255) (hcl : ∀ c ∈ cl.l, -32768 ≤ c ∧ c ≤ 32767) : evw env 3 [.int .u8 rep, encSl (eI .i16) cl, .int .u8 op] [] = some (.bool true, [], false) := by
  refine evw_pureW (bs := [.int .u8 rep, encSl (eI .i16) cl, .int .u8 op]) (pf := fn3) rfl rfl (by simp only [List.map_cons, List.map_nil, st_int, strip_enc]) (Nat.le_of_ble_eq_true rfl) (by simp [PV.clean, cleanL, clean_encSl (clean_eI .i16)]) rfl ?_
  refine WB.of (pf := fn3) rfl ?_
  refine WC.seqR (us 1 rfl (WO.nil ?_))
  refine WC.seq (WC.seqR ?_)
  refine WO.step (v := .bool true) rfl (nz rfl (stp_call (vs := []) rfl rfl (evw_intr (f := 4) rfl rfl))) (us 1 rfl (WO.nil ?_))
  refine WC.condF rfl rfl (WC.skip (KX.seq_n ?_))
  refine WC.seq (WC.seqR (us 1 rfl ?_))
  refine WO.step rfl (nz rfl (stp_len rfl (isSl_enc _ _) rfl)) ?_
  by_cases hl : cl.l.length ≤ 30
  case neg =>
    refine WO.step (v := .bool true) rfl (nb (t := decide (Sl.len cl > 30)) rfl rfl (decide_eq_true (by rw [Sl.len_nat]; omega))) (WO.nil ?_)
    refine WC.condT rfl rfl (WC.seqR (us 1 rfl (WO.nil (WC.ret (KX.seq_r ?_)))))
    exact Kr (.bool true) rfl rfl
  refine WO.step (v := .bool false) rfl (nb (t := decide (Sl.len cl > 30)) rfl rfl (decide_eq_false (by rw [Sl.len_nat]; omega))) (WO.nil ?_)
  refine WC.condF rfl rfl (WC.skip (KX.seq_n ?_))
  refine WC.seqR ?_
  refine WO.step rfl (nz rfl (stp_call rfl rfl new1)) (us 1 rfl (WO.nil ?_))
  obtain ⟨n, rfl⟩ : ∃ n : Nat, rep = n := ⟨rep.toNat, by omega⟩
  have hr : n % 4 < 4 := Nat.mod_lt _ (by decide)
  have e4 : (n : Int).tmod 4 = ((n % 4 : Nat) : Int) := by rw [Int.tmod_eq_emod_of_nonneg (by omega)]; omega
  generalize n % 4 = r at hr e4
  refine WC.seqR (us 2 rfl ?_)
  refine WO.step (v := .int .u8 (r : Int)) rfl (ni (t := (n : Int).tmod 4) rfl rfl e4) ?_
  refine WO.step (v := .int .i64 (r : Int)) rfl (ni (t := cv .i64 (r : Int)) rfl rfl (cv64 (by omega))) ?_
  refine WO.step rfl (nz rfl (stp_call rfl rfl (make hr))) (us 5 rfl (WO.nil ?_))
  refine WC.seq (WC.seqR (us 6 rfl (WO.nil ?_)))
  refine WC.condF rfl rfl (WC.skip (KX.seq_n ?_))
  have H := make_hp hr
  refine WC.seqR (us 1 rfl ?_)
  refine Wa (cs := [.int .i64 0, .int .i64 0, .int .i64 0]) H rfl fun top S2 _ H => ?_
  refine WO.stc 0 H (cs' := i3 (0, 0, 0)) rfl fun S3 H => WO.nil ?_
  have fin : ∀ {σ : Nat → PV} {S : List SObj} {e : Bool}, WC env ⟨126, 0⟩ (.seq (.region [⟨some 6, .assign (.const (.bool true)), none, false⟩]) .ret) σ S e (KB env ⟨126, [.tmp 6], pc3, false⟩ fun v' _ _ => v'.strip = .bool true) := by
    intro σ S e
    refine WC.seqR (us 1 rfl (WO.nil (WC.ret ?_)))
    exact Kr (.bool true) rfl rfl
  refine WC.seq (WC.seqR (us 1 rfl (WO.nil ?_)))
  refine WC.block (lawL (fun σ S e => KX.block_x (KX.seq_n fin)) hr e4 hcl hl cl.l.length 0 8 _ _ _ (by omega) ?_
    (known_cons rfl (known_cons rfl (known_cons rfl (known_cons rfl (known_cons rfl (known_cons rfl (known_cons rfl known_nil))))))))
  exact ⟨0, 0, [], 0, _, _, _, 0, 1, 6, 7, (0, 0, 0), _, _, ⟨by simp, by simp, rfl, by simp, by omega⟩, ⟨rfl, rfl, rfl, rfl, rfl⟩, .row _ _ rfl,
    H.perm (.trans (List.perm_append_singleton _ _).symm (.refl _)), .inr ⟨rfl, Int.le_refl _⟩, by omega, by omega⟩
end Go.Proofs.YtecimmaoilignaaGreatDoor.M.L
