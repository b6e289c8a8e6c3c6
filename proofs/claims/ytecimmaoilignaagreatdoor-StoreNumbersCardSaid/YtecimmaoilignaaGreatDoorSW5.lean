/- store.Open, walked. -/
import Derived.Test.YtecimmaoilignaaGreatDoorSW4
import Derived.Test.YtecimmaoilignaaGreatDoorSK5
namespace Go.Proofs.YtecimmaoilignaaGreatDoor.M.L
open Go Go.Pam Go.RowKit
set_option maxRecDepth 4000
set_option linter.unusedSimpArgs false
set_option linter.unusedVariables false
def logN : Str := [108, 111, 103]
section
variable {S S0 : List SObj} {R : List Nat} {C : List (Nat × SObj)} {A : List (PV × Nat)} {W : List (PV × SObj)} {i j1 j2 : Nat} {v : PV} {o : SObj} {d : Dsk}
theorem F18_eq (r : Nat) (hr : r < 4) : F18 10 (r : Int) = some ⟨⟨0, 0, r⟩⟩ := by
  match r, hr with
  | 0, _ => rfl
  | 1, _ => rfl
  | 2, _ => rfl
  | 3, _ => rfl
theorem open_st {r : Nat} (hr : r < 4) {ts : List Nm} (hts : ∀ t ∈ ts, IsN t) (hlen : ts.length ≤ 40) {T : Int} (hb : lastB (0, 0, (r : Int)) ts = (T, 0, (r : Int))) (hT : 0 ≤ T ∧ T ≤ 1099511627776)
    (hp : IsP d.pend v o) (H : DH S0 R S i j1 j2 v o d C A W) (hl : d.pend.length < 1000000) (hnow : d.now.length ≤ 1) (hn : ∀ y ∈ d.pend, y.name = logN)
    (h0 : (d.left == 0) = false) {s : Str} {k : Nat} (hg : Mp.get? d.now logN = some s) (hF : F64 k s = some (some (wrec r :: ts.map rrec), (s.length : Int), 0)) :
    ∃ S' v' o' st gn l g e, evw env 8 [.ptr i 0] S = some (.tup [.ptr st 0, .int .i64 0], S', e) ∧ IsP d.pend v' o' ∧
      Hp S0 R S' ((st, .cells (sc r l kw (T, 0, r) i gn (T, 0, r))) :: (gn, .cells (i3 (T, 0, r))) :: (l, .cells (lgc (.ptr g 0))) :: DC i j1 j2 v' d C) A ((v', o') :: W) := by
  obtain ⟨S1, v1, o1, e1, h28, hp1, H1, _⟩ := open_dk (n := logN) (s := s) (k := k) (m := s.length) (X := some (wrec r :: ts.map rrec)) (d' := d) hp H hl hnow hn h0 hg hF (Nat.le_refl _) (by rw [if_neg (by omega)])
  obtain ⟨S2, l, g, e2, h29, N⟩ := s29 hr ts hts hlen S1
  rw [hb] at h29
  have H2 : Hp S0 R S2 ((l, .cells (lgc (.ptr g 0))) :: DC i j1 j2 v1 d C) A ((v1, o1) :: W) := H1.callNew N
  clear N
  obtain ⟨q, h1, S', v', o', st, gn, l', g', e, rfl, h2⟩ := evw_storeW (env := env) (f := 8) (pf := fn8) (args := [.ptr i 0]) (S := S)
    (K := fun q => ∃ S' v' o' st gn l g e, q = (.tup [.ptr st 0, .int .i64 0], S', e) ∧ IsP d.pend v' o' ∧
      Hp S0 R S' ((st, .cells (sc r l kw (T, 0, r) i gn (T, 0, r))) :: (gn, .cells (i3 (T, 0, r))) :: (l, .cells (lgc (.ptr g 0))) :: DC i j1 j2 v' d C) A ((v', o') :: W)) rfl rfl (Nat.le_of_ble_eq_true rfl) rfl (WB.of (pf := fn8) rfl (by
    refine WC.seqR (us 2 rfl (WO.nil ?_))
    refine WC.seqR (us 1 rfl ?_)
    refine WO.step rfl (nz rfl (stp_call rfl rfl h28)) (us 5 rfl (WO.nil ?_))
    refine WC.seq (WC.seqR (us 2 rfl (WO.nil ?_)))
    refine WC.condF rfl rfl (WC.skip (KX.seq_n ?_))
    refine WC.seqR (us 1 rfl ?_)
    refine WO.step rfl (nz rfl (stp_call rfl rfl h29)) (us 4 rfl ?_)
    refine Wa (cs := z60) H2 rfl fun ic S3 _ H => ?_
    refine WO.store 0 rfl rfl H rfl (off := 0) (sz := 7) (xc := stc r l T 0 r) (cs' := stc r l T 0 r) (v := .agg (stc r l T 0 r)) rfl rfl rfl rfl rfl rfl (Nat.le_of_ble_eq_true rfl) rfl rfl fun S4 H => ?_
    refine us 2 rfl (WO.nil ?_)
    refine WC.seqR (Wa (cs := [.nilp]) H rfl fun i9 S5 _ H => WO.nil ?_)
    refine WC.seq (WC.seqR (us 2 rfl ?_))
    refine WO.step (v := .bool false) rfl (nz rfl (stp_call rfl rfl (evw_intr (f := 30) rfl rfl))) (WO.nil ?_)
    refine WC.condF rfl rfl (WC.skip (KX.seq_n ?_))
    obtain ⟨gn, S6, h18, N⟩ := s18 10 (F18_eq r hr) S5
    have Hb := H
    have H := H.callNew N
    clear N
    refine WC.seq (WC.drawC ?_)
    refine wkl Hb 1 rfl rfl rfl rfl (v := .agg (stc r l T 0 r)) ?_
    refine wk (.ptr i 0) rfl rfl rfl rfl ?_
    refine wk (.ptr ic 0) rfl rfl rfl rfl ?_
    refine wkl Hb 1 rfl rfl rfl rfl (v := .int .i64 r) ?_
    refine WK.turn rfl (nz rfl (stp_call rfl rfl h18)) rfl ⟨pend_cons (ld (H.get 2 rfl) rfl) (pend_cons (ld (H.get 2 rfl) rfl) pend_nil), ?_⟩
    refine wk (.ptr ic 4) rfl rfl rfl rfl ?_
    refine WK.load (v := .agg [.int .i64 T, .int .i64 0, .int .i64 r]) rfl rfl (ld (H.get 2 rfl) rfl) (hist_cons (ld (Hb.get 1 rfl) rfl) hist_nil) ?_
    refine WK.nil ?_
    refine WO.step (v := .agg (sc r l kw (T, 0, r) i gn (T, 0, r))) rfl (nz rfl rfl) ?_
    refine Wb (cs := sc r l kw (T, 0, r) i gn (T, 0, r)) H rfl fun st S7 _ H => ?_
    refine us 1 rfl (WO.nil ?_)
    have h32 := s32 10 (F32_new T 0 r hT.1 hT.2 (by omega) (by omega)) (H.get 1 rfl)
    have H' := H.set 1 rfl (i3 (T, 0, r))
    refine WC.seq (WC.draw ?_)
    refine wh _ rfl rfl (wh _ rfl rfl (wh _ rfl rfl ?_))
    refine WH.step (v := .ptr gn 0) rfl (nz rfl (stp_load rfl (H.get 0 rfl) rfl)) rfl rfl ?_
    refine wh _ rfl rfl ?_
    refine WH.step (v := .agg [.int .i64 T, .int .i64 0, .int .i64 r]) rfl (nz rfl (stp_load rfl (H.get 3 rfl) rfl)) rfl rfl (WH.nil ?_)
    refine WO.step rfl (nz rfl (stp_call rfl rfl h32)) (WO.nil ?_)
    have H := H'
    clear H'
    refine WC.seqR (us 1 rfl ?_)
    refine WO.step rfl (nz rfl (stp_call rfl rfl (s33 hr hT.1 (Int.le_refl 0) (H.get 0 rfl) (H.get 1 rfl) (H.get 4 rfl)))) (WO.nil ?_)
    refine WC.seq (WC.seqR (us 2 rfl (WO.nil ?_)))
    refine WC.condF rfl rfl (WC.skip (KX.seq_n ?_))
    refine WC.seqR (us 3 rfl (WO.nil ?_))
    refine WC.ret (KB.ret (vs := [.ptr st 0, .int .i64 0]) rfl (fl_cons' rfl (fl_cons' rfl rfl)) ?_)
    exact ⟨_, v1, o1, st, gn, l, g, _, by unfold leave; rw [if_neg (by intro h; cases h.2)]; rfl, hp1, H.sub (.cons_cons _ (.cons_cons _ (.cons _ (.cons _ (List.Sublist.refl _))))) (List.Sublist.refl _) (List.Sublist.refl _)⟩))
  exact ⟨S', v', o', st, gn, l', g', e, h1, h2⟩
end
end Go.Proofs.YtecimmaoilignaaGreatDoor.M.L
