/- The store's List, sees, walked. -/
import Derived.Test.YtecimmaoilignaaGreatDoorSP3
namespace Go.Proofs.YtecimmaoilignaaGreatDoor.M.L
open Go Go.Pam Go.RowKit
set_option maxRecDepth 4000
set_option linter.unusedSimpArgs false
set_option linter.unusedVariables false
def sc (r : Int) (l : Nat) (kn : PV) (b : Int × Int × Int) (d gn : Nat) (s : Int × Int × Int) : List PV :=
  [.int .i64 r, .int .i64 4, .ptr l 0, kn, .int .i64 b.1, .int .i64 b.2.1, .int .i64 b.2.2, .ptr d 0, .ptr gn 0, .int .i64 s.1, .int .i64 s.2.1, .int .i64 s.2.2]
abbrev i3 (b : Int × Int × Int) : List PV := [.int .i64 b.1, .int .i64 b.2.1, .int .i64 b.2.2]
theorem s46 (S : List SObj) : evw env 46 [.nils] S = some (.nils, S, false) := by
  refine evw_pureW (pf := fn46) (bs := [.nils]) rfl rfl rfl (Nat.le_of_ble_eq_true rfl) rfl rfl ?_
  refine WB.of (pf := fn46) rfl ?_
  refine WC.seqR (us 1 rfl (WO.nil ?_))
  refine WC.seqR (us 1 rfl (WO.nil ?_))
  refine WC.seq (WC.seqR (us 3 rfl (WO.nil ?_)))
  refine WC.block (WC.loop (WC.seqR (us 1 rfl (WO.nil ?_))))
  refine WC.seq (WC.condF rfl rfl (WC.exit (KX.seq_x (KX.seq_x (KX.block_x (KX.seq_n ?_))))))
  refine WC.seqR (us 2 rfl (WO.nil ?_))
  exact WC.ret (Kr .nils rfl rfl)
theorem s16 {S : List SObj} {l : Nat} {g : PV} (hS : S[l]? = some (.cells (lgc g))) : evw env 16 [.ptr l 0] S = some (.nils, S, false) := by
  refine evw_roW (pf := fn16) rfl rfl rfl rfl rfl (WB.of (pf := fn16) rfl ?_)
  refine WC.seqR (us 1 rfl (WO.nil ?_))
  refine WC.seqR (us 3 rfl ?_)
  refine WO.step (v := .nils) rfl (nz rfl (stp_load rfl hS rfl)) ?_
  refine WO.step rfl (nz rfl (stp_call rfl rfl (s46 _))) (us 1 rfl (WO.nil ?_))
  exact WC.ret (Kr .nils rfl ⟨rfl, rfl, rfl⟩)
theorem see_same {S : List SObj} {gn : Nat} {T q r : Int} (j : Int) (hT : 0 ≤ T) (hq : 0 ≤ q) (hS : S[gn]? = some (.cells (i3 (T, q, r)))) : evw env 32 [.ptr gn 0, vz j] S = some (.tup [], S, false) := by
  have h := s32 10 (a0 := ⟨⟨T, q, r⟩⟩) (a1 := ⟨0, 0, j⟩) (F32_same T q r j hT hq) hS
  refine h.trans ?_
  have : S.set gn (.cells (i3 (T, q, r))) = S := by
    obtain ⟨hlt, he⟩ := List.getElem?_eq_some_iff.1 hS
    rw [← he, List.set_getElem_self]
  show some (PV.tup [], S.set gn (.cells (i3 (T, q, r))), false) = _
  rw [this]
theorem kv_at {r : Nat} (hr : r < 4) : Sl.at? (some [(), (), (), ()]) (r : Int) = some () := by
  match r, hr with
  | 0, _ => rfl
  | 1, _ => rfl
  | 2, _ => rfl
  | 3, _ => rfl
theorem s33 {S : List SObj} {st gn l d : Nat} {r : Nat} {g : PV} {b s : Int × Int × Int} {T q r' : Int} (hr : r < 4) (hT : 0 ≤ T) (hq : 0 ≤ q) (hst : S[st]? = some (.cells (sc r l kw b d gn s))) (hgn : S[gn]? = some (.cells (i3 (T, q, r')))) (hl : S[l]? = some (.cells (lgc g))) :
    evw env 33 [.ptr st 0] S = some (.tup [], S, false) := by
  have lst := (List.getElem?_eq_some_iff.1 hst).1
  have lgn := (List.getElem?_eq_some_iff.1 hgn).1
  refine evw_recvW (pf := fn33) rfl rfl (Nat.le_of_ble_eq_true rfl) rfl (WB.of (pf := fn33) rfl ?_)
  have H := Hp.start S
  refine WC.seq (WC.seqR (us 4 rfl ?_))
  refine WO.step (v := .ptr l 0) rfl (nz rfl (stp_load rfl hst rfl)) ?_
  refine WO.step rfl (nz rfl (stp_call rfl rfl (s16 hl))) (us 2 rfl (WO.nil ?_))
  refine WC.block (WC.loop (WC.seqR (us 1 rfl (WO.nil ?_))))
  refine WC.seq (WC.condF rfl rfl (WC.exit (KX.seq_x (KX.seq_x (KX.block_x (KX.seq_n ?_))))))
  refine WC.seq (WC.draw ?_)
  refine wh _ rfl rfl (wh _ rfl rfl (wh _ rfl rfl (wh _ rfl rfl ?_)))
  refine WH.step (v := kw) rfl (nz rfl (stp_load rfl hst rfl)) rfl rfl ?_
  refine wh _ rfl rfl (wh _ rfl rfl (wh _ rfl rfl (wh _ rfl rfl ?_)))
  refine WH.step (v := .int .i64 r) rfl (nz rfl (stp_load rfl hst rfl)) rfl rfl ?_
  refine WH.step (v := .iptr [kv] 0) rfl (nz rfl (stp_idxAddr (f := fun _ : Unit => kv) (x := some [(), (), (), ()]) rfl ⟨.none, rfl⟩ rfl rfl rfl (kv_at hr) rfl rfl)) rfl rfl ?_
  refine wh _ rfl rfl (wh _ rfl rfl (wh _ rfl rfl (WH.nil (WO.nil ?_))))
  refine WC.reset (l := [(0, .ptr st 0), (36, kv), (37, .int .i64 4), (38, .int .i64 0)]) (known_cons rfl (known_cons rfl (known_cons rfl (known_cons rfl known_nil)))) fun σ0 => ?_
  refine WC.block (WC.loop (WC.seqR (us 1 rfl (WO.nil ?_))))
  refine WC.seq (WC.condT rfl rfl (WC.skip (KX.seq_n ?_)))
  refine WC.seq (WC.block (WC.seqR (us 2 rfl ?_)))
  refine Wa (cs := [.int .i64 0, .int .i64 0, .int .i64 0]) H rfl fun ic S1 hic H => ?_
  refine WO.stc 0 H (cs' := [.int .i64 0, .int .i64 0, .int .i64 0]) rfl fun S2 H => WO.nil ?_
  refine WC.draw ?_
  refine wh _ rfl rfl (wh _ rfl rfl (wh _ rfl rfl ?_))
  refine WH.step (v := .ptr gn 0) rfl (nz rfl (stp_load rfl ((H.old st lst (by simp)).trans hst) rfl)) rfl rfl ?_
  refine WH.step (v := vz 0) rfl (nz rfl (stp_load rfl (H.get 0 rfl) rfl)) rfl rfl (WH.nil ?_)
  refine WO.step rfl (nz rfl (stp_call rfl rfl (see_same 0 hT hq ((H.old gn lgn (by simp)).trans hgn)))) (WO.nil (KX.block_n (KX.seq_n ?_)))
  refine WC.region (us 2 rfl (WO.nil (KX.seq_n ?_)))
  have H := H.dropC
  refine WC.reset (l := [(0, .ptr st 0), (36, kv), (37, .int .i64 4), (38, .int .i64 1)]) (known_cons rfl (known_cons rfl (known_cons rfl (known_cons rfl known_nil)))) fun σ1 => ?_
  refine id (WC.loop (WC.seqR (us 1 rfl (WO.nil ?_))))
  refine WC.seq (WC.condT rfl rfl (WC.skip (KX.seq_n ?_)))
  refine WC.seq (WC.block (WC.seqR (us 2 rfl ?_)))
  refine Wa (cs := [.int .i64 0, .int .i64 0, .int .i64 0]) H rfl fun ic S1 hic H => ?_
  refine WO.stc 0 H (cs' := [.int .i64 0, .int .i64 0, .int .i64 1]) rfl fun S2 H => WO.nil ?_
  refine WC.draw ?_
  refine wh _ rfl rfl (wh _ rfl rfl (wh _ rfl rfl ?_))
  refine WH.step (v := .ptr gn 0) rfl (nz rfl (stp_load rfl ((H.old st lst (by simp)).trans hst) rfl)) rfl rfl ?_
  refine WH.step (v := vz 1) rfl (nz rfl (stp_load rfl (H.get 0 rfl) rfl)) rfl rfl (WH.nil ?_)
  refine WO.step rfl (nz rfl (stp_call rfl rfl (see_same 1 hT hq ((H.old gn lgn (by simp)).trans hgn)))) (WO.nil (KX.block_n (KX.seq_n ?_)))
  refine WC.region (us 2 rfl (WO.nil (KX.seq_n ?_)))
  have H := H.dropC
  refine WC.reset (l := [(0, .ptr st 0), (36, kv), (37, .int .i64 4), (38, .int .i64 2)]) (known_cons rfl (known_cons rfl (known_cons rfl (known_cons rfl known_nil)))) fun σ2 => ?_
  refine id (WC.loop (WC.seqR (us 1 rfl (WO.nil ?_))))
  refine WC.seq (WC.condT rfl rfl (WC.skip (KX.seq_n ?_)))
  refine WC.seq (WC.block (WC.seqR (us 2 rfl ?_)))
  refine Wa (cs := [.int .i64 0, .int .i64 0, .int .i64 0]) H rfl fun ic S1 hic H => ?_
  refine WO.stc 0 H (cs' := [.int .i64 0, .int .i64 0, .int .i64 2]) rfl fun S2 H => WO.nil ?_
  refine WC.draw ?_
  refine wh _ rfl rfl (wh _ rfl rfl (wh _ rfl rfl ?_))
  refine WH.step (v := .ptr gn 0) rfl (nz rfl (stp_load rfl ((H.old st lst (by simp)).trans hst) rfl)) rfl rfl ?_
  refine WH.step (v := vz 2) rfl (nz rfl (stp_load rfl (H.get 0 rfl) rfl)) rfl rfl (WH.nil ?_)
  refine WO.step rfl (nz rfl (stp_call rfl rfl (see_same 2 hT hq ((H.old gn lgn (by simp)).trans hgn)))) (WO.nil (KX.block_n (KX.seq_n ?_)))
  refine WC.region (us 2 rfl (WO.nil (KX.seq_n ?_)))
  have H := H.dropC
  refine WC.reset (l := [(0, .ptr st 0), (36, kv), (37, .int .i64 4), (38, .int .i64 3)]) (known_cons rfl (known_cons rfl (known_cons rfl (known_cons rfl known_nil)))) fun σ3 => ?_
  refine id (WC.loop (WC.seqR (us 1 rfl (WO.nil ?_))))
  refine WC.seq (WC.condT rfl rfl (WC.skip (KX.seq_n ?_)))
  refine WC.seq (WC.block (WC.seqR (us 2 rfl ?_)))
  refine Wa (cs := [.int .i64 0, .int .i64 0, .int .i64 0]) H rfl fun ic S1 hic H => ?_
  refine WO.stc 0 H (cs' := [.int .i64 0, .int .i64 0, .int .i64 3]) rfl fun S2 H => WO.nil ?_
  refine WC.draw ?_
  refine wh _ rfl rfl (wh _ rfl rfl (wh _ rfl rfl ?_))
  refine WH.step (v := .ptr gn 0) rfl (nz rfl (stp_load rfl ((H.old st lst (by simp)).trans hst) rfl)) rfl rfl ?_
  refine WH.step (v := vz 3) rfl (nz rfl (stp_load rfl (H.get 0 rfl) rfl)) rfl rfl (WH.nil ?_)
  refine WO.step rfl (nz rfl (stp_call rfl rfl (see_same 3 hT hq ((H.old gn lgn (by simp)).trans hgn)))) (WO.nil (KX.block_n (KX.seq_n ?_)))
  refine WC.region (us 2 rfl (WO.nil (KX.seq_n ?_)))
  have H := H.dropC
  refine WC.loop (WC.seqR (us 1 rfl (WO.nil ?_)))
  refine WC.seq (WC.condF rfl rfl (WC.exit (KX.seq_x (KX.seq_x (KX.block_x ?_)))))
  refine KB.normal (vs := []) res_nil rfl ?_
  exact leave_of rfl rfl rfl (by simp) H.len fun k hk => H.old k hk (by simp)
end Go.Proofs.YtecimmaoilignaaGreatDoor.M.L
