/- The law's walk: Spent, the loop's round. -/
import Derived.Test.YtecimmaoilignaaGreatDoorSN
namespace Go.Proofs.YtecimmaoilignaaGreatDoor.M.L
open Go Go.Pam Go.RowKit
set_option maxRecDepth 4000
set_option linter.unusedSimpArgs false
set_option linter.unusedVariables false
theorem spent_st {S : List SObj} {r : Int} {st l d gn : Nat} {kn : PV} {b s : Int × Int × Int} (hS : S[st]? = some (.cells (sc r l kn b d gn s))) : evw env 10 [.ptr st 0] S = some (.agg (i3 s), S, false) := by
  have h : evw env 10 [.ptr st 0] S = some (.agg (i3 s), S.set st (.cells (sc r l kn b d gn s)), false) := by
    refine evw_recvW (pf := fn10) rfl rfl (Nat.le_of_ble_eq_true rfl) rfl (WB.of (pf := fn10) rfl ?_)
    have H := Hp.start1 hS rfl
    refine WC.seqR (Wa (cs := [.int .i64 0, .int .i64 0, .int .i64 0]) H rfl fun i1 S1 _ H => WO.nil ?_)
    refine WC.seqR (us 3 rfl ?_)
    refine Wg H 1 rfl ?_
    refine WO.stc 0 H (cs' := i3 s) rfl fun S2 H => WO.nil ?_
    refine WC.ret (KB.ret (vs := [.agg (i3 s)]) (res_cell rfl (H.get 0 rfl) rfl res_nil) (fl_cons' rfl rfl) ?_)
    exact leave_hp hS H 1 rfl rfl rfl
  have e : S.set st (.cells (sc r l kn b d gn s)) = S := by
    apply List.ext_getElem?
    intro n
    rw [List.getElem?_set]
    split
    · rename_i hn; subst hn
      split
      · exact hS.symm
      · rename_i hlt; rw [List.getElem?_eq_none (by omega)]
    · rfl
  rw [h, e]
/-- What a call of Next makes of what is kept. -/
theorem step_plain {r i T' q' B : Nat} {ts : List Nm} {d : Dsk} (hr : r < 4) (hi : i ≤ 30) (N : Nums r i ts B) (D : DIs d [(logN, logB r ts)] [(logN, logB r ts)] [] (-1)) (hT : T' ≤ 327670 + 1000 * i) :
    ∃ (ts' : List Nm) (B' : Nat) (d' : Dsk), Nums r (i + 1) ts' B' ∧ DIs d' [(logN, logB r ts')] [(logN, logB r ts')] [] (-1) ∧ (T' < B' ∨ T' = B' ∧ q' = 0) ∧
      ((¬ cmpC ⟨T', q', r⟩ ⟨B, 0, r⟩ > 0 ∧ ((B' : Int), (0 : Int), (r : Int)) = ((B : Int), (0 : Int), (r : Int)) ∧ d' = d) ∨
       (cmpC ⟨T', q', r⟩ ⟨B, 0, r⟩ > 0 ∧ ((B' : Int), (0 : Int), (r : Int)) = (((T' + 1000 : Nat) : Int), 0, (r : Int)) ∧ (d.wal logN (rec1 (rrec (txt (T' + 1000) 0 r, 0, 0, 0)))).2 = 0 ∧ d' = (d.wal logN (rec1 (rrec (txt (T' + 1000) 0 r, 0, 0, 0)))).1)) := by
  by_cases hc : cmpC ⟨T', q', r⟩ ⟨B, 0, r⟩ > 0
  · have h1 := logB_len (r := r) N.small (by have := N.len; omega)
    have h2 : (rec1 (rrec (txt (T' + 1000) 0 r, 0, 0, 0))).length ≤ 100 := by
      have := txt_len (T' + 1000) 0 r (by omega) (by omega) (by omega)
      rw [rec1_len]; simp [rrec]; omega
    obtain ⟨d', e, D'⟩ := wal_is (p := rec1 (rrec (txt (T' + 1000) 0 r, 0, 0, 0))) D (.inr rfl) (.inr rfl) (by omega)
    refine ⟨ts ++ [resN T' r], T' + 1000, d', N.next hr (by omega) hT, ?_, .inl (by omega), .inr ⟨hc, rfl, by rw [e], by rw [e]⟩⟩
    rw [logB_snoc]
    exact D'
  · refine ⟨ts, B, d, N.up, D, ?_, .inl ⟨hc, rfl, rfl⟩⟩
    have := mt (cmpC_gt T' q' B r).2 hc
    omega
/-- What the law keeps of a round to the next one. -/
def Rnd (r i : Nat) (S : List SObj) (st top di : Nat) : Prop :=
  ∃ (T q : Nat) (ts : List Nm) (B : Nat) (d : Dsk) (v : PV) (o : SObj) (j1 j2 l gn : Nat) (tt : Int × Int × Int) (ks : List PV) (tg : Tag), Nums r i ts B ∧
    DIs d [(logN, logB r ts)] [(logN, logB r ts)] [] (-1) ∧ IsP d.pend v o ∧
    Hp [] [] S ((gn, .cells (i3 (T, q, r))) :: (st, .cells (sc r l (.lst ks tg) (B, 0, r) di gn (T, q, r))) :: DC di j1 j2 v d [(top, .cells (i3 tt))]) [] [(v, o)] ∧
    (tt.1 < T ∨ tt.1 = T ∧ tt.2.1 ≤ q) ∧ T ≤ 327670 + 1000 * i ∧ q ≤ i
set_option maxHeartbeats 4000000 in
theorem lawL {K : KX} (hK : ∀ σ S e, K (.exit 0) σ S e) {rep op : Int} {r di top : Nat} (hr : r < 4) (hrep : rep.tmod 4 = r) {cl : Sl Int} (hcl : ∀ c ∈ cl.l, -32768 ≤ c ∧ c ≤ 32767) (hlen : cl.l.length ≤ 30) :
    ∀ (j i st : Nat) (σ : Nat → PV) (S : List SObj) (e : Bool), i + j = cl.l.length → Rnd r i S st top di →
      Known [(0, .int .u8 rep), (1, encSl (eI .i16) cl), (2, .int .u8 op), (7, .ptr di 0), (8, .ptr st 0), (10, .ptr top 0), (11, .int .i64 (i : Int))] σ →
      WC env ⟨126, 0⟩ (.loop pc3L0) σ S e K := by
  intro j
  induction j with
  | zero =>
    intro i st σ S e hij _ hk
    refine WC.loop (WC.of_known hk ?_)
    refine WC.seq (WC.seqR (us 2 rfl ?_))
    refine WO.step rfl (nz rfl (stp_len rfl (isSl_enc _ _) rfl)) ?_
    refine WO.step (v := .bool false) rfl (nb (t := decide ((i : Int) < Sl.len cl)) rfl rfl (decide_eq_false (by rw [Sl.len_nat]; omega))) (WO.nil ?_)
    refine WC.condF rfl rfl (WC.exit (KX.seq_x (KX.seq_x (hK _ _ _))))
  | succ j ih =>
    intro i st σ S e hij hR hk
    obtain ⟨T, q, ts, B, d, v, o, j1, j2, l, gn, tt, ks, tg, N, D, hp, H, htt, hT, hq⟩ := hR
    have hi : i < cl.l.length := by omega
    have hat : Sl.at? cl (i : Int) = some cl.l[i] := by rw [Sl.at?_nat, List.getElem?_eq_getElem hi]
    have hc := hcl cl.l[i] (List.getElem_mem hi)
    generalize cl.l[i] = c at hat hc
    have ecv : cv .i64 c = c := cv64 (by omega)
    have emul : ml .i64 c 10 = c * 10 := by rw [ml64 (by omega)]
    obtain ⟨T', q', h24, hnow, hlt, _, hTn⟩ := next_plain (r := r) (T := T) (q := q) (now := c * 10) (by omega) (by omega) (by omega)
    have hT' : T' ≤ 327670 + 1000 * i := by omega
    obtain ⟨ts', B', d', N', D', hTB, hcase⟩ := step_plain (q' := q') hr (by omega) N D hT'
    have lenB := logB_len (r := r) N.small (by have := N.len; omega)
    obtain ⟨S1, v1, o1, gn1, h7, hp1, H1⟩ := next_st (r := r) (by omega) (T := (T : Int)) (q := (q : Int)) (b := ((B : Int), 0, (r : Int))) (b' := ((B' : Int), 0, (r : Int))) (q' := (q' : Int)) (d' := d') h24 (by omega) hp H
      (by rw [D.pend]; simp) (by rw [D.now]; simp) (by rw [D.pend]; simp) (by rw [D.now, get_one]; simp; omega) hcase
    refine WC.loop (WC.of_known hk ?_)
    refine WC.seq (WC.seqR (us 2 rfl ?_))
    refine WO.step rfl (nz rfl (stp_len rfl (isSl_enc _ _) rfl)) ?_
    refine WO.step (v := .bool true) rfl (nb (t := decide ((i : Int) < Sl.len cl)) rfl rfl (decide_eq_true (by rw [Sl.len_nat]; omega))) (WO.nil ?_)
    refine WC.condT rfl rfl (WC.skip (KX.seq_n ?_))
    refine WC.seqJ (fun σ' S' _ => ∃ st', Rnd r (i + 1) S' st' top di ∧ Known [(0, .int .u8 rep), (1, encSl (eI .i16) cl), (2, .int .u8 op), (7, .ptr di 0), (8, .ptr st' 0), (10, .ptr top 0), (11, .int .i64 (i : Int))] σ') (WC.block ?_) ?_
    case refine_2 =>
      rintro σ' S' e' ⟨st', hR', hk'⟩
      refine WC.of_known hk' (WC.region (us 1 rfl ?_))
      refine WO.step (v := .int .i64 ((i + 1 : Nat) : Int)) rfl (ni (t := ad .i64 (i : Int) 1) rfl rfl (ad_nat (by omega))) (us 1 rfl (WO.nil (KX.seq_n ?_)))
      exact ih (i + 1) st' _ _ _ (by omega) hR' (known_cons rfl (known_cons rfl (known_cons rfl (known_cons rfl (known_cons rfl (known_cons rfl (known_cons rfl known_nil)))))))
    refine WC.seqR (us 3 rfl ?_)
    refine WO.step (v := .iptr [.int .i16 c] 0) rfl (nz rfl (stp_idxAddr rfl (isSl_enc _ _) rfl rfl rfl hat rfl rfl)) ?_
    refine us 1 rfl ?_
    refine WO.step (v := .int .i64 c) rfl (ni (t := cv .i64 c) rfl rfl ecv) ?_
    refine WO.step (v := .int .i64 (c * 10)) rfl (ni (t := ml .i64 c 10) rfl rfl emul) ?_
    refine WO.step rfl (nz rfl (stp_call rfl rfl h7)) (us 3 rfl ?_)
    refine Wa (cs := [.int .i64 0, .int .i64 0, .int .i64 0]) H1 rfl fun n S2 _ H => ?_
    refine WO.stc 0 H (cs' := i3 (T', q', r)) rfl fun S3 H => ?_
    refine us 1 rfl (WO.nil ?_)
    refine WC.seqJ (fun σ' S' _ => Known [(0, .int .u8 rep), (1, encSl (eI .i16) cl), (2, .int .u8 op), (7, .ptr di 0), (8, .ptr st 0), (10, .ptr top 0), (11, .int .i64 (i : Int)), (12, .ptr n 0)] σ' ∧ S' = S3) ?_ ?_
    · have kn : ∀ {σ : Nat → PV}, (σ 0, σ 1, σ 2, σ 7, σ 8, σ 10, σ 11, σ 12) = (.int .u8 rep, encSl (eI .i16) cl, .int .u8 op, .ptr di 0, .ptr st 0, .ptr top 0, .int .i64 (i : Int), .ptr n 0) →
          Known [(0, .int .u8 rep), (1, encSl (eI .i16) cl), (2, .int .u8 op), (7, .ptr di 0), (8, .ptr st 0), (10, .ptr top 0), (11, .int .i64 (i : Int)), (12, .ptr n 0)] σ := fun h => by
        injection h with h0 h; injection h with h1 h; injection h with h2 h; injection h with h3 h; injection h with h4 h; injection h with h5 h; injection h with h6 h7
        exact known_cons h0 (known_cons h1 (known_cons h2 (known_cons h3 (known_cons h4 (known_cons h5 (known_cons h6 (known_cons h7 known_nil)))))))
      refine WC.seq (WC.draw ?_)
      refine wh _ rfl rfl (wh _ rfl rfl (wh _ rfl rfl ?_))
      refine WH.go0 (b := false) rfl rfl (wh _ rfl rfl ?_)
      refine WH.go0 (b := false) rfl rfl (WH.step (v := .int .i64 (r : Int)) rfl (nz rfl (stp_load rfl (H.get 0 rfl) rfl)) rfl rfl ?_)
      refine WH.go0 (b := false) rfl rfl (wh _ rfl rfl ?_)
      refine WH.go0 (b := false) rfl rfl (WH.step (v := .int .u8 (r : Int)) rfl (ni (t := rep.tmod 4) rfl rfl hrep) rfl rfl ?_)
      refine WH.go0 (b := false) rfl rfl (WH.step (v := .int .i64 (r : Int)) rfl (ni (t := cv .i64 (r : Int)) rfl rfl (cv64 (by omega))) rfl rfl ?_)
      refine WH.go0 (b := false) rfl rfl (WH.step (v := .bool false) rfl (nb (t := ((r : Int) != (r : Int))) rfl rfl (by simp)) rfl rfl ?_)
      refine wh _ rfl rfl (wh _ rfl rfl ?_)
      refine WH.go0 (b := false) rfl rfl (wh _ rfl rfl ?_)
      refine WH.go0 (b := false) rfl rfl (WH.step (v := .int .i64 (T' : Int)) rfl (nz rfl (stp_load rfl (H.get 0 rfl) rfl)) rfl rfl ?_)
      refine WH.go0 (b := false) rfl rfl (wh _ rfl rfl ?_)
      refine WH.go0 (b := false) rfl rfl (wh _ rfl rfl ?_)
      refine WH.go0 (b := false) rfl rfl (WH.step (v := .iptr [.int .i16 c] 0) rfl (nz rfl (stp_idxAddr rfl (isSl_enc _ _) rfl rfl rfl hat rfl rfl)) rfl rfl ?_)
      refine WH.go0 (b := false) rfl rfl (wh _ rfl rfl ?_)
      refine WH.go0 (b := false) rfl rfl (WH.step (v := .int .i64 c) rfl (ni (t := cv .i64 c) rfl rfl ecv) rfl rfl ?_)
      refine WH.go0 (b := false) rfl rfl (WH.step (v := .int .i64 (c * 10)) rfl (ni (t := ml .i64 c 10) rfl rfl emul) rfl rfl ?_)
      refine WH.go0 (b := false) rfl rfl (WH.step (v := .bool false) rfl (nb (t := decide ((T' : Int) < c * 10)) rfl rfl (decide_eq_false (by omega))) rfl rfl ?_)
      refine wh _ rfl rfl (wh _ rfl rfl ?_)
      refine WH.go0 (b := false) rfl rfl (wh _ rfl rfl ?_)
      refine WH.go0 (b := false) rfl rfl (WH.step (v := .int .i64 (T' : Int)) rfl (nz rfl (stp_load rfl (H.get 0 rfl) rfl)) rfl rfl ?_)
      refine WH.go0 (b := false) rfl rfl (wh _ rfl rfl ?_)
      refine WH.go0 (b := false) rfl rfl (WH.step (v := .int .i64 tt.1) rfl (nz rfl (stp_load rfl (H.get 6 rfl) rfl)) rfl rfl ?_)
      refine WH.go0 (b := false) rfl rfl (WH.step (v := .bool false) rfl (nb (t := decide ((T' : Int) < tt.1)) rfl rfl (decide_eq_false (by omega))) rfl rfl ?_)
      refine wh _ rfl rfl (wh _ rfl rfl ?_)
      refine WH.go0 (b := false) rfl rfl (wh _ rfl rfl ?_)
      refine WH.go0 (b := false) rfl rfl (WH.step (v := .int .i64 (T' : Int)) rfl (nz rfl (stp_load rfl (H.get 0 rfl) rfl)) rfl rfl ?_)
      refine WH.go0 (b := false) rfl rfl (wh _ rfl rfl ?_)
      refine WH.go0 (b := false) rfl rfl (WH.step (v := .int .i64 tt.1) rfl (nz rfl (stp_load rfl (H.get 6 rfl) rfl)) rfl rfl ?_)
      cases hb : ((T' : Int) == tt.1) with
      | true =>
        have hb' : (T' : Int) = tt.1 := by simpa using hb
        refine WH.go0 (b := false) rfl rfl (WH.step (v := .bool true) rfl (nb (t := ((T' : Int) == tt.1)) rfl rfl hb) rfl rfl ?_)
        refine WH.go0 (b := false) rfl rfl (wh _ rfl rfl ?_)
        refine WH.go0 (b := true) rfl rfl (wh _ rfl rfl ?_)
        refine WH.go0 (b := true) rfl rfl (WH.step (v := .int .i64 (q' : Int)) rfl (nz rfl (stp_load rfl (H.get 0 rfl) rfl)) rfl rfl ?_)
        refine WH.go0 (b := true) rfl rfl (wh _ rfl rfl ?_)
        refine WH.go0 (b := true) rfl rfl (WH.step (v := .int .i64 tt.2.1) rfl (nz rfl (stp_load rfl (H.get 6 rfl) rfl)) rfl rfl (WH.nil ?_))
        refine WO.go0 (b := true) rfl rfl (WO.step (v := .bool false) rfl (nb (t := decide ((q' : Int) ≤ tt.2.1)) rfl rfl (decide_eq_false (by omega))) (us 6 rfl (WO.nil ?_)))
        exact WC.condF rfl rfl (WC.skip (KX.seq_n ⟨kn rfl, rfl⟩))
      | false =>
        refine WH.go0 (b := false) rfl rfl (WH.step (v := .bool false) rfl (nb (t := ((T' : Int) == tt.1)) rfl rfl hb) rfl rfl ?_)
        refine WH.go0 (b := false) rfl rfl (wh _ rfl rfl ?_)
        refine WH.by (b := false) rfl rfl rfl (WH.by (b := false) rfl rfl rfl (WH.by (b := false) rfl rfl rfl (WH.by (b := false) rfl rfl rfl (WH.nil ?_))))
        refine us 7 rfl (WO.nil ?_)
        exact WC.condF rfl rfl (WC.skip (KX.seq_n ⟨kn rfl, rfl⟩))
    · rintro σ' S' e' ⟨hk', rfl⟩
      refine WC.of_known hk' ?_
      refine WC.seqR (Wg H 0 rfl ?_)
      refine WO.stc 6 H (cs' := i3 (T', q', r)) rfl fun S4 H => WO.nil ?_
      refine WC.seqR (us 5 rfl ?_)
      cases hb : ((i : Int).tmod 3 == cv .i64 (op.tmod 4)) with
      | false =>
        refine WO.step (v := .bool false) rfl (nb (t := ((i : Int).tmod 3 == cv .i64 (op.tmod 4))) rfl rfl hb) (WO.nil ?_)
        refine WC.condF rfl rfl (WC.skip (KX.block_n (KX.seq_n ⟨st, ?_, known_cons rfl (known_cons rfl (known_cons rfl (known_cons rfl (known_cons rfl (known_cons rfl (known_cons rfl known_nil))))))⟩)))
        exact ⟨T', q', ts', B', d', v1, o1, j1, j2, l, gn1, ((T' : Int), (q' : Int), (r : Int)), ks, tg, N', D', hp1, H.sub (.cons _ (List.Sublist.refl _)) (List.Sublist.refl _) (List.Sublist.refl _), .inr ⟨rfl, Int.le_refl _⟩, by omega, by omega⟩
      | true =>
        refine WO.step (v := .bool true) rfl (nb (t := ((i : Int).tmod 3 == cv .i64 (op.tmod 4))) rfl rfl hb) (WO.nil ?_)
        have hB' := N'.top
        have hl' := N'.len
        obtain ⟨S5, v2, o2, st', gn2, l2, g2, e2, h8, hp2, H5⟩ := open_st hr N'.isn (by omega) N'.last ⟨by omega, by omega⟩ hp1 (Hp.toD [_, _, _] H) (by rw [D'.pend]; simp) (by rw [D'.now]; simp) (by rw [D'.pend]; simp)
          (by rw [D'.left]; rfl) (by rw [D'.now, get_one]) (logB_scan N'.small (by omega))
        refine WC.condT rfl rfl ?_
        refine WC.seqR (us 1 rfl ?_)
        refine WO.step rfl (nz rfl (stp_call rfl rfl h8)) (us 5 rfl (WO.nil ?_))
        obtain ⟨z, hz, hz0⟩ := F9_ge (r := r) hTB
        refine WC.seq (WC.seq (WC.drawC ?_))
        refine wk _ rfl rfl rfl rfl (wk _ rfl rfl rfl rfl (wk _ rfl rfl rfl rfl ?_))
        refine WK.go0 (b := false) rfl rfl (wk _ rfl rfl rfl rfl ?_)
        refine WK.go0 (b := false) rfl rfl (wk _ rfl rfl rfl rfl ?_)
        refine wk _ rfl rfl rfl rfl (wk _ rfl rfl rfl rfl ?_)
        refine WK.go0 (b := false) rfl rfl (wk _ rfl rfl rfl rfl ?_)
        refine WK.go0 (b := false) rfl rfl (WK.callP rfl (nz rfl (stp_call rfl rfl (spent_st (H5.get 0 rfl)))) rfl ?_)
        refine WK.go0 (b := false) rfl rfl (wkl H5 9 rfl rfl rfl rfl (v := .agg (i3 (T', q', r))) ?_)
        refine WK.nil ?_
        refine WO.go0 (b := false) rfl rfl (WO.step rfl (nz rfl (stp_call rfl rfl (s9 10 hz rfl _))) ?_)
        refine WO.go0 (b := false) rfl rfl (WO.step (v := .bool false) rfl (nb (t := decide (z < 0)) rfl rfl (decide_eq_false (by omega))) (us 1 rfl (WO.nil ?_)))
        refine WC.condF rfl rfl (WC.skip (KX.seq_n ?_))
        refine WC.region (us 2 rfl (WO.nil ?_))
        refine KX.block_n (KX.seq_n ⟨st', ?_, known_cons rfl (known_cons rfl (known_cons rfl (known_cons rfl (known_cons rfl (known_cons rfl (known_cons rfl known_nil))))))⟩)
        have H6 := H5.perm (C' := (gn2, .cells (i3 ((B' : Int), 0, (r : Int)))) :: (st', .cells (sc r l2 kw ((B' : Int), 0, (r : Int)) di gn2 ((B' : Int), 0, (r : Int)))) :: (l2, .cells (lgc (.ptr g2 0))) :: DC di j1 j2 v2 d' _) (.swap ..)
        refine ⟨B', 0, ts', B', d', v2, o2, j1, j2, l2, gn2, ((T' : Int), (q' : Int), (r : Int)), [kv, kv, kv, kv], .none, N', D', hp2, H6.sub (.cons_cons _ (.cons_cons _ (.cons _ (.cons_cons _ (.cons_cons _ (.cons_cons _ (.cons _ (.cons _ (.cons _ (List.Sublist.refl _)))))))))) (List.Sublist.refl _) (List.Sublist.refl _), ?_, by omega, by omega⟩
        rcases hTB with hTB | ⟨hTB, hq0⟩
        · exact .inl (by show (T' : Int) < (B' : Int); omega)
        · exact .inr ⟨by show (T' : Int) = (B' : Int); omega, by show (q' : Int) ≤ ((0 : Nat) : Int); omega⟩
end Go.Proofs.YtecimmaoilignaaGreatDoor.M.L
