/- store's keep and Next, walked. -/
import Derived.Test.YtecimmaoilignaaGreatDoorSW5
import Derived.Test.YtecimmaoilignaaGreatDoorSP2
namespace Go.Proofs.YtecimmaoilignaaGreatDoor.M.L
open Go Go.Pam Go.RowKit
set_option maxRecDepth 4000
set_option linter.unusedSimpArgs false
set_option linter.unusedVariables false
section
variable {S S0 : List SObj} {R : List Nat} {C : List (Nat × SObj)} {A : List (PV × Nat)} {W : List (PV × SObj)} {i j1 j2 : Nat} {v : PV} {o : SObj} {d : Dsk}
theorem perm3 {α : Type} (xs ys C : List α) : (xs ++ (ys ++ C)).Perm (ys ++ (xs ++ C)) := by
  rw [← List.append_assoc, ← List.append_assoc]; exact List.perm_append_comm.append_right C
theorem Hp.toD (xs : List (Nat × SObj)) (H : Hp S0 R S (xs ++ DC i j1 j2 v d C) A W) : Hp S0 R S (DC i j1 j2 v d (xs ++ C)) A W := H.perm (perm3 xs [_, _, _] C)
theorem Hp.ofD (xs : List (Nat × SObj)) (H : Hp S0 R S (DC i j1 j2 v d (xs ++ C)) A W) : Hp S0 R S (xs ++ DC i j1 j2 v d C) A W := H.perm (perm3 xs [_, _, _] C).symm
theorem keep_st {r : Int} {l gn st : Nat} {ks : List PV} {t : Tag} {b s B : Int × Int × Int} {p : Str} (hpl : p.length ≤ 50)
    (hp : IsP d.pend v o) (H : Hp S0 R S ((st, .cells (sc r l (.lst ks t) b i gn s)) :: DC i j1 j2 v d C) A ((v, o) :: W)) (hl : d.pend.length < 1000000) (hnow : d.now.length ≤ 1) (hn : ∀ y ∈ d.pend, y.name = logN)
    (hx : ((Mp.get? d.now logN).getD []).length < 1000000) (hw : (d.wal logN (rec1 (101 :: p))).2 = 0) :
    ∃ S' v' o', evw env 26 [.ptr st 0, .str p, .agg [.int .i64 r, .int .i64 4, .ptr l 0, .lst ks t, .int .i64 B.1, .int .i64 B.2.1, .int .i64 B.2.2]] S = some (.int .i64 0, S', true) ∧ IsP (d.wal logN (rec1 (101 :: p))).1.pend v' o' ∧
      Hp S0 R S' ((st, .cells (sc r l (.lst ks t) B i gn s)) :: DC i j1 j2 v' (d.wal logN (rec1 (101 :: p))).1 C) A ((v', o') :: W) := by
  have hlt : st < S.length := H.ltC (st, .cells (sc r l (.lst ks t) b i gn s)) (List.mem_cons_self ..)
  have h49 : F49 1000 (some [101 :: p]) = some (rec1 (101 :: p)) := by
    have := F49_eq 1000 (some [101 :: p]) (by omega) (by intro b hb; rw [Sl.l_some, List.mem_singleton] at hb; subst hb; rw [List.length_cons]; omega) (Nat.le_of_ble_eq_true rfl)
    rw [this, Sl.l_some, recs, recs, List.append_nil]
  have hr1 : (rec1 (101 :: p)).length ≤ 100 := by rw [rec1_len]; simp; omega
  obtain ⟨q, h1, S', v', o', rfl, h2⟩ := evw_storeW (env := env) (f := 26) (pf := fn26) (args := [.ptr st 0, .str p, .agg [.int .i64 r, .int .i64 4, .ptr l 0, .lst ks t, .int .i64 B.1, .int .i64 B.2.1, .int .i64 B.2.2]]) (S := S)
    (K := fun q => ∃ S' v' o', q = (.int .i64 0, S', true) ∧ IsP (d.wal logN (rec1 (101 :: p))).1.pend v' o' ∧
      Hp S0 R S' ((st, .cells (sc r l (.lst ks t) B i gn s)) :: DC i j1 j2 v' (d.wal logN (rec1 (101 :: p))).1 C) A ((v', o') :: W)) rfl rfl (Nat.le_of_ble_eq_true rfl) rfl (WB.of (pf := fn26) rfl (by
    refine WC.seqR (Wb (cs := [.int .i64 r, .int .i64 4, .ptr l 0, .lst ks t, .int .i64 B.1, .int .i64 B.2.1, .int .i64 B.2.2]) H rfl fun i5 S1 _ H => us 1 rfl (WO.nil ?_))
    have HD := Hp.toD [_, _] H
    obtain ⟨S2, v', o', e2, h62, hp2, HD2, _⟩ := wal_dk (n := logN) (p := rec1 (101 :: p)) (k := 1000) (l := some [101 :: p]) (lv := .lst [.str (101 :: p)] .none) hp HD hl hnow hn ⟨.none, rfl⟩ rfl h49 (by omega)
    rw [hw] at h62
    have H2 := Hp.ofD [_, _] HD2
    clear HD HD2
    refine WC.seq (WC.draw ?_)
    refine wh _ rfl rfl (wh _ rfl rfl (wh _ rfl rfl ?_))
    refine WH.step (v := .ptr i 0) rfl (nz rfl (stp_load rfl (H.get 1 rfl) rfl)) rfl rfl ?_
    refine wh _ rfl rfl ?_
    refine wh (.lst [.str (101 :: p)] .none) rfl (nz rfl (stp_call (vs := [.str p]) rfl rfl (s21 10 (F21_ok p (by omega)) rfl _))) (WH.nil ?_)
    refine WO.step rfl (nz rfl (stp_call rfl rfl h62)) (us 1 rfl (WO.nil ?_))
    refine WC.seq (WC.seqR (us 3 rfl ?_))
    refine WO.step rfl (nz rfl (stp_call rfl rfl (evw_isFltI rfl 0 21 _))) (WO.nil ?_)
    refine WC.condF rfl rfl (WC.skip (KX.seq_n ?_))
    refine WC.seq (WC.seqR (us 2 rfl (WO.nil ?_)))
    refine WC.condT rfl rfl (WC.region (us 1 rfl ?_))
    refine Wg H2 0 rfl (us 2 rfl ?_)
    refine WO.ste 1 H2 hlt (cs' := sc r l (.lst ks t) B i gn s) rfl fun S3 H => WO.nil (KX.seq_n ?_)
    refine WC.seqR (us 2 rfl (WO.nil ?_))
    refine WC.ret (Kr (.int .i64 0) rfl ?_)
    exact ⟨S3, v', o', by unfold leave; rw [if_neg (by intro h; cases h.1)]; rfl, hp2, H.dropC⟩))
  exact ⟨S', v', o', h1, h2⟩
theorem Hp.toS (xs : List (Nat × SObj)) {x : Nat × SObj} (H : Hp S0 R S (xs ++ x :: DC i j1 j2 v d C) A W) : Hp S0 R S (x :: DC i j1 j2 v d (xs ++ C)) A W := H.perm (perm3 xs [_, _, _, _] C)
theorem Hp.ofS (xs : List (Nat × SObj)) {x : Nat × SObj} (H : Hp S0 R S (x :: DC i j1 j2 v d (xs ++ C)) A W) : Hp S0 R S (xs ++ x :: DC i j1 j2 v d C) A W := H.perm (perm3 xs [_, _, _, _] C).symm
theorem next_st {r : Nat} (hr : r < 6) {l gn st : Nat} {ks : List PV} {t : Tag} {b b' s : Int × Int × Int} {T q now : Int} {T' : Nat} {q' : Int} {d' : Dsk}
    (h24 : F24 10 ⟨⟨T, q, r⟩⟩ now = some (⟨⟨T', q', r⟩⟩, ⟨T', q', r⟩, 0)) (hT' : T' < 900000000)
    (hp : IsP d.pend v o) (H : Hp S0 R S ((gn, .cells (i3 (T, q, r))) :: (st, .cells (sc r l (.lst ks t) b i gn s)) :: DC i j1 j2 v d C) A ((v, o) :: W)) (hl : d.pend.length < 1000000) (hnow : d.now.length ≤ 1) (hn : ∀ y ∈ d.pend, y.name = logN)
    (hx : ((Mp.get? d.now logN).getD []).length < 1000000)
    (hc : (¬ cmpC ⟨T', q', r⟩ ⟨b.1, b.2.1, b.2.2⟩ > 0 ∧ b' = b ∧ d' = d) ∨ (cmpC ⟨T', q', r⟩ ⟨b.1, b.2.1, b.2.2⟩ > 0 ∧ b' = (((T' + 1000 : Nat) : Int), 0, (r : Int)) ∧ (d.wal logN (rec1 (rrec (txt (T' + 1000) 0 r, 0, 0, 0)))).2 = 0 ∧ d' = (d.wal logN (rec1 (rrec (txt (T' + 1000) 0 r, 0, 0, 0)))).1)) :
    ∃ S' v' o' gn', evw env 7 [.ptr st 0, .int .i64 now] S = some (.tup [.agg [.int .i64 T', .int .i64 q', .int .i64 r], .int .i64 0], S', true) ∧ IsP d'.pend v' o' ∧
      Hp S0 R S' ((gn', .cells (i3 (T', q', r))) :: (st, .cells (sc r l (.lst ks t) b' i gn' (T', q', r))) :: DC i j1 j2 v' d' C) A ((v', o') :: W) := by
  have hlt : st < S.length := H.ltC (st, .cells (sc r l (.lst ks t) b i gn s)) (by simp)
  obtain ⟨q, h1, S', v', o', gn', rfl, h2⟩ := evw_storeW (env := env) (f := 7) (pf := fn7) (args := [.ptr st 0, .int .i64 now]) (S := S)
    (K := fun q => ∃ S' v' o' gn', q = (.tup [.agg [.int .i64 T', .int .i64 q', .int .i64 r], .int .i64 0], S', true) ∧ IsP d'.pend v' o' ∧
      Hp S0 R S' ((gn', .cells (i3 (T', q', r))) :: (st, .cells (sc r l (.lst ks t) b' i gn' (T', q', r))) :: DC i j1 j2 v' d' C) A ((v', o') :: W)) rfl rfl (Nat.le_of_ble_eq_true rfl) rfl (WB.of (pf := fn7) rfl (by
    refine WC.seqR (Wa (cs := [.int .i64 0, .int .i64 0, .int .i64 0]) H rfl fun i4 S1 _ H => us 1 rfl (WO.nil ?_))
    refine WC.seqR (us 3 rfl ?_)
    refine Wg H 2 rfl ?_
    obtain ⟨gc, S2, h23, N⟩ := s23 10 (a0 := ⟨⟨T, q, r⟩⟩) (r := (⟨⟨T, q, r⟩⟩, ⟨⟨T, q, r⟩⟩)) rfl (H.get 1 rfl)
    have H := H.callNewR 1 rfl N
    clear N
    refine WO.step rfl (nz rfl (stp_call rfl rfl h23)) (us 1 rfl (WO.nil ?_))
    refine WC.seqR (us 2 rfl ?_)
    have h24' := s24 10 h24 (H.get 0 rfl)
    have H := H.set 0 rfl (i3 (T', q', r))
    refine WO.step rfl (nz rfl (stp_call rfl rfl h24')) (us 3 rfl ?_)
    refine Wa (cs := [.int .i64 0, .int .i64 0, .int .i64 0]) H rfl fun i7 S3 _ H => ?_
    refine WO.stc 0 H (cs' := i3 (T', q', r)) rfl fun S4 H => ?_
    refine us 1 rfl (WO.nil ?_)
    refine WC.seq (WC.seqR (us 2 rfl (WO.nil ?_)))
    refine WC.condF rfl rfl (WC.skip (KX.seq_n ?_))
    refine WC.seqJ (fun σ' S' e' => ∃ v' o', Known [(0, .ptr st 0), (4, .ptr i4 0), (6, .ptr gc 0), (7, .ptr i7 0)] σ' ∧ IsP d'.pend v' o' ∧
      Hp S0 R S' ((i7, .cells (i3 (T', q', r))) :: (gc, .cells (i3 (T', q', r))) :: (i4, .cells [.int .i64 0, .int .i64 0, .int .i64 0]) :: (st, .cells (sc r l (.lst ks t) b' i gn s)) :: DC i j1 j2 v' d' C) A ((v', o') :: W)) ?_ ?_
    · refine WC.seq (WC.draw ?_)
      refine WH.step (v := .agg (i3 (T', q', r))) rfl (nz rfl (stp_load rfl (H.get 0 rfl) rfl)) rfl rfl ?_
      refine wh _ rfl rfl (wh _ rfl rfl (wh _ rfl rfl (wh _ rfl rfl ?_)))
      refine WH.step (v := .agg (i3 b)) rfl (nz rfl (stp_load rfl (H.get 4 rfl) rfl)) rfl rfl (WH.nil ?_)
      refine WO.step rfl (nz rfl (stp_call rfl rfl (s25 10 (a0 := ⟨T', q', r⟩) (a1 := ⟨b.1, b.2.1, b.2.2⟩) (F25_eq _ _) rfl _))) (us 1 rfl (WO.nil ?_))
      rcases hc with ⟨hc, rfl, rfl⟩ | ⟨hc, rfl, hw, rfl⟩
      · refine WC.condF (t := decide (cmpC ⟨T', q', r⟩ ⟨b'.1, b'.2.1, b'.2.2⟩ > 0)) rfl (decide_eq_false hc) (WC.skip ?_)
        exact ⟨v, o, known_cons rfl (known_cons rfl (known_cons rfl (known_cons rfl known_nil))), hp, H.sub (.cons_cons _ (.cons_cons _ (.cons_cons _ (.cons _ (List.Sublist.refl _))))) (List.Sublist.refl _) (List.Sublist.refl _)⟩
      · refine WC.condT (t := decide (cmpC ⟨T', q', r⟩ ⟨b.1, b.2.1, b.2.2⟩ > 0)) rfl (decide_eq_true hc) ?_
        refine WC.seqR (us 3 rfl ?_)
        refine Wg H 4 rfl ?_
        refine Wa (cs := z60) H rfl fun i9 S5 _ H => ?_
        refine WO.store 0 rfl rfl H rfl (off := 0) (sz := 7) (xc := [.int .i64 r, .int .i64 4, .ptr l 0, .lst ks t, .int .i64 b.1, .int .i64 b.2.1, .int .i64 b.2.2]) (cs' := [.int .i64 r, .int .i64 4, .ptr l 0, .lst ks t, .int .i64 b.1, .int .i64 b.2.1, .int .i64 b.2.2])
          (v := .agg [.int .i64 r, .int .i64 4, .ptr l 0, .lst ks t, .int .i64 b.1, .int .i64 b.2.1, .int .i64 b.2.2]) rfl rfl rfl rfl rfl rfl (Nat.le_of_ble_eq_true rfl) rfl rfl fun S6 H => WO.nil ?_
        have e1 : ad .i64 (T' : Int) 1000 = ((T' + 1000 : Nat) : Int) := by rw [ad64 (by omega)]; omega
        refine WC.seq (WC.draw ?_)
        refine wh _ rfl rfl ?_
        refine WH.step (v := .int .i64 (T' : Int)) rfl (nz rfl (stp_load rfl (H.get 1 rfl) rfl)) rfl rfl ?_
        refine WH.step (v := .int .i64 ((T' + 1000 : Nat) : Int)) rfl (ni (t := ad .i64 (T' : Int) 1000) rfl rfl e1) rfl rfl ?_
        refine wh _ rfl rfl (wh _ rfl rfl (wh _ rfl rfl (wh _ rfl rfl ?_)))
        refine WH.step (v := .int .i64 (r : Int)) rfl (nz rfl (stp_load rfl (H.get 5 rfl) rfl)) rfl rfl (WH.nil ?_)
        refine us 2 rfl ?_
        refine WO.stc 0 H (cs' := [.int .i64 r, .int .i64 4, .ptr l 0, .lst ks t, .int .i64 ((T' + 1000 : Nat) : Int), .int .i64 0, .int .i64 (r : Int)]) rfl fun S7 H => WO.nil ?_
        refine WC.seq (WC.seqR (us 2 rfl ?_))
        refine Wg H 0 rfl ?_
        refine WO.step (v := .bool false) rfl (nb (t := decide (((T' + 1000 : Nat) : Int) > 1099511627776)) rfl rfl (decide_eq_false (by omega))) (WO.nil ?_)
        refine WC.condF rfl rfl (WC.skip (KX.seq_n ?_))
        have htl := txt_len (T' + 1000) 0 r (by omega) (by omega) (by omega)
        obtain ⟨S8, v', o', h26, hp', HS⟩ := keep_st (p := 82 :: txt (T' + 1000) 0 r) (B := (((T' + 1000 : Nat) : Int), 0, (r : Int))) (by rw [List.length_cons]; omega) hp (Hp.toS [_, _, _, _, _] H) hl hnow hn hx hw
        have H' := Hp.ofS [_, _, _, _, _] HS
        clear HS
        refine WC.seq (WC.draw ?_)
        refine wh _ rfl rfl (wh _ rfl rfl ?_)
        refine WH.step (v := .agg (i3 (((T' + 1000 : Nat) : Int), 0, (r : Int)))) rfl (nz rfl (stp_load rfl (H.get 0 rfl) rfl)) rfl rfl ?_
        refine wh (.str (82 :: txt (T' + 1000) 0 r)) rfl (nz rfl (stp_call (vs := [.agg (i3 (((T' + 1000 : Nat) : Int), 0, (r : Int)))]) rfl rfl (s27 10 (F27_txt 10 (T' + 1000) 0 r (by omega) (by omega) (by omega)) rfl _))) ?_
        refine WH.step (v := .agg [.int .i64 r, .int .i64 4, .ptr l 0, .lst ks t, .int .i64 ((T' + 1000 : Nat) : Int), .int .i64 0, .int .i64 (r : Int)]) rfl (nz rfl (stp_load rfl (H.get 0 rfl) rfl)) rfl rfl (WH.nil ?_)
        refine WO.step rfl (nz rfl (stp_call rfl rfl h26)) (us 1 rfl (WO.nil ?_))
        refine WC.seqR (us 2 rfl (WO.nil ?_))
        refine WC.condF rfl rfl (WC.skip ?_)
        exact ⟨v', o', known_cons rfl (known_cons rfl (known_cons rfl (known_cons rfl known_nil))), hp', H'.sub (.cons _ (.cons_cons _ (.cons_cons _ (.cons_cons _ (.cons _ (List.Sublist.refl _)))))) (List.Sublist.refl _) (List.Sublist.refl _)⟩
    · rintro σ' S9 e' ⟨v', o', hk, hp', H⟩
      refine WC.of_known hk ?_
      have Hb := H
      have H1 := H.set 3 rfl (sc r l (.lst ks t) b' i gc s)
      refine WC.seq (WC.drawC ?_)
      refine wk (.ptr st 0) rfl rfl rfl rfl (wk (.ptr st 0) rfl rfl rfl rfl (wk (.ptr gc 0) rfl rfl rfl rfl ?_))
      refine wkl H 0 rfl rfl rfl rfl (v := .agg (i3 (T', q', r))) ?_
      refine wk (.ptr st 0) rfl rfl rfl rfl (wk (.ptr st 8) rfl rfl rfl rfl ?_)
      refine WK.turn (v := .tup []) (e' := true) rfl (nz rfl (stp_store (cs' := sc r l (.lst ks t) b' i gc s) (sz := 1) (xc := [.ptr gc 0]) rfl rfl (H.get 3 rfl) rfl rfl rfl rfl (Nat.le_of_ble_eq_true rfl) rfl (by rw [decide_eq_true hlt]; rfl))) rfl ⟨pend_cons (ld (H1.get 0 rfl) rfl) pend_nil, WK.nil ?_⟩
      refine us 2 rfl ?_
      refine WO.stc 3 H1 (cs' := sc r l (.lst ks t) b' i gc (T', q', r)) rfl fun S10 H => WO.nil ?_
      refine WC.seqR ?_
      refine Wg H 0 rfl ?_
      refine WO.stc 2 H (cs' := i3 (T', q', r)) rfl fun S11 H => ?_
      refine us 1 rfl (WO.nil ?_)
      refine WC.ret (KB.ret (vs := [.agg (i3 (T', q', r)), .int .i64 0]) (res_cell rfl (H.get 2 rfl) rfl (res_tmp rfl res_nil)) (fl_cons' rfl (fl_cons' rfl rfl)) ?_)
      exact ⟨S11, v', o', gc, by unfold leave; rw [if_neg (by intro h; have := h.1; simp at this)]; simp [tupled], hp', H.sub (.cons _ (.cons_cons _ (.cons _ (List.Sublist.refl _)))) (List.Sublist.refl _) (List.Sublist.refl _)⟩))
  exact ⟨S', v', o', gn', h1, h2⟩
end
end Go.Proofs.YtecimmaoilignaaGreatDoor.M.L
