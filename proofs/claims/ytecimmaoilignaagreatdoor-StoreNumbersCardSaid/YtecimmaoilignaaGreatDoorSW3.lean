/- store's replay, walked. -/
import Derived.Test.YtecimmaoilignaaGreatDoorSW2
import Derived.Test.YtecimmaoilignaaGreatDoorSK5
namespace Go.Proofs.YtecimmaoilignaaGreatDoor.M.L
open Go Go.Pam Go.RowKit
set_option maxRecDepth 4000
set_option linter.unusedSimpArgs false
set_option linter.unusedVariables false
abbrev Nm := Str × Int × Int × Int
def rrec (t : Nm) : Str := 101 :: 82 :: t.1
def wrec (r : Nat) : Str := 101 :: 87 :: rt r
/-- Is it a number's text? -/
def IsN (t : Nm) : Prop := t.1.length < 1000 ∧ ∀ S, evw env 110 [.str t.1] S = some (.tup [.agg [.int .i64 t.2.1, .int .i64 t.2.2.1, .int .i64 t.2.2.2], .int .i64 0], S, false)
def z60 : List PV := [.int .i64 0, .int .i64 0, .nilp, .nils, .int .i64 0, .int .i64 0, .int .i64 0]
def lastB : (Int × Int × Int) → List Nm → (Int × Int × Int)
  | b, [] => b
  | _, t :: ts => lastB t.2 ts
theorem app_nil (p : Str) (h : p.length < 1000000) : Str.app? [] p = some p := by
  have := Str.app?_ok (a := []) (b := p) (by simp; omega)
  simpa using this
theorem replayL {S0 : List SObj} {X : List Str} {r : Nat} {i2 i5 l g : Nat} {K : KX} (hX : X.length ≤ 100) (h5 : S0.length ≤ i5)
    (b' : Int × Int × Int)
    (hK : ∀ σ' S' e' (k : Nat), 1 ≤ k → Known [(2, .ptr i2 0), (5, .ptr i5 0), (6, .str []), (7, .int .i64 k)] σ' → Hp S0 [] S' [(l, .cells (lgc (.ptr g 0))), (i5, .cells (stc r l b'.1 b'.2.1 b'.2.2)), (i2, .cells z60)] [] [] → K (.exit 0) σ' S' e') :
    ∀ (ts : List Nm) (m k : Nat) (σ : Nat → PV) (S : List SObj) (e : Bool) (b : Int × Int × Int), X.drop m = ts.map rrec → m + ts.length = X.length → 1 ≤ k → k ≤ m → (∀ t ∈ ts, IsN t) → lastB b ts = b' →
      Known [(2, .ptr i2 0), (5, .ptr i5 0), (6, .str []), (7, .int .i64 k), (10, .lst (X.map eS) .none), (11, .int .i64 (X.length : Int)), (12, .int .i64 (m : Int))] σ →
      Hp S0 [] S [(l, .cells (lgc (.ptr g 0))), (i5, .cells (stc r l b.1 b.2.1 b.2.2)), (i2, .cells z60)] [] [] →
      WC env ⟨68, S0.length⟩ (.loop pc29L0) σ S e K := by
  intro ts
  induction ts with
  | nil =>
    intro m k σ S e b hm hl hk hkm hn hb hσ H
    have hmX : ¬ ((m : Int) < (X.length : Int)) := by simp at hl; omega
    refine WC.of_known hσ (WC.loop (WC.seqR (us 1 rfl (WO.nil ?_))))
    refine WC.seq (WC.condF (t := decide ((m : Int) < (X.length : Int))) rfl (decide_eq_false hmX) (WC.exit ?_))
    simp only [lastB] at hb
    subst hb
    exact KX.seq_x (KX.seq_x (hK _ _ _ k hk (known_cons rfl (known_cons rfl (known_cons rfl (known_cons rfl known_nil)))) H))
  | cons t ts ih =>
    intro m k σ S e b hm hl hk hkm hn hb hσ H
    obtain ⟨ht1, ht2⟩ := hn t (List.mem_cons_self ..)
    have hlt : m < X.length := by have := hl; simp only [List.length_cons] at this; omega
    have hy : X[m]? = some (rrec t) := by
      have := congrArg (fun z => z[0]?) hm
      simpa using this
    have hat : Sl.at? (some X) (m : Int) = some (101 :: 82 :: t.1) := by rw [Sl.at?_nat]; exact hy
    have p1 : F65 0 (101 :: 82 :: t.1) [99] = some false := pre_c 101 99 _ (by simp; omega)
    have p2 : F65 0 (101 :: 82 :: t.1) [101] = some true := pre_c 101 101 _ (by simp; omega)
    refine WC.of_known hσ (WC.loop (WC.seqR (us 1 rfl (WO.nil ?_))))
    refine WC.seq (WC.condT (t := decide ((m : Int) < (X.length : Int))) rfl (decide_eq_true (by omega)) (WC.skip (KX.seq_n ?_)))
    refine WC.seq (WC.block ?_)
    refine WC.seqR (us 1 rfl ?_)
    refine WO.step (v := .iptr [.str (101 :: 82 :: t.1)] 0) rfl (nz rfl (stp_idxAddr (f := eS) (x := some X) rfl ⟨.none, rfl⟩ rfl rfl rfl hat rfl rfl)) (us 3 rfl (WO.nil ?_))
    refine WC.seq (WC.block ?_)
    refine WC.seqR (us 1 rfl ?_)
    refine WO.step rfl (nz rfl (stp_call rfl rfl (s65 0 p1 rfl _))) (us 1 rfl (WO.nil ?_))
    refine WC.condF rfl rfl ?_
    refine WC.seqR (us 1 rfl ?_)
    refine WO.step rfl (nz rfl (stp_call rfl rfl (s65 0 p2 rfl _))) (us 1 rfl (WO.nil ?_))
    refine WC.condT rfl rfl (WC.region (us 2 rfl ?_))
    refine WO.step (v := .str (82 :: t.1)) rfl (nz rfl (stp_subStr rfl rfl rfl rfl (sub1 101 (82 :: t.1)))) ?_
    refine WO.step (v := .str (82 :: t.1)) rfl (nz rfl (stp_strApp rfl rfl (app_nil _ (by simp; omega)))) (us 1 rfl (WO.nil (KX.block_n (KX.seq_n ?_))))
    refine WC.seq (WC.seqR (us 1 rfl ?_))
    refine WO.step (v := .bool false) rfl (nb (t := (k : Int) == 0) rfl rfl (beq_eq_false_iff_ne.2 (by omega))) (us 7 rfl ?_)
    refine WO.go0 rfl rfl (WO.step rfl (nz rfl (stp_call rfl rfl (does_R ht2 (by omega) (H.get 1 rfl)))) (us 2 rfl (WO.nil ?_)))
    have H := H.set 1 rfl (stc r l t.2.1 t.2.2.1 t.2.2.2)
    refine WC.condF rfl rfl (WC.skip (KX.seq_n ?_))
    refine WC.seqR (us 1 rfl (WO.nil ?_))
    refine WC.region (us 3 rfl (WO.nil (KX.block_n (KX.seq_n ?_))))
    refine WC.region (us 2 rfl (WO.nil (KX.seq_n ?_)))
    have e1 : ad .i64 (k : Int) 1 = ((k + 1 : Nat) : Int) := ad_nat (by omega)
    have e2 : ad .i64 (m : Int) 1 = ((m + 1 : Nat) : Int) := ad_nat (by omega)
    refine ih (m + 1) (k + 1) _ _ _ t.2 ?_ (by have := hl; simp only [List.length_cons] at this; omega) (by omega) (by omega) (fun u hu => hn u (List.mem_cons_of_mem _ hu)) hb
      (known_cons rfl (known_cons rfl (known_cons rfl (known_cons (Eq.trans rfl (congrArg (PV.int .i64) e1)) (known_cons rfl (known_cons rfl (known_cons (Eq.trans rfl (congrArg (PV.int .i64) e2)) known_nil))))))) H
    have h3 := congrArg (List.drop 1) hm
    rw [List.drop_drop, List.map_cons, List.drop_one, List.tail_cons] at h3
    exact h3
theorem replayB {r : Nat} (hr : r < 4) (ts : List Nm) (hts : ∀ t ∈ ts, IsN t) (hlen : ts.length ≤ 40) (S : List SObj) :
    WB env fn29 [.lst ((wrec r :: ts.map rrec).map eS) .none] S fun v S' e => ∃ l g, v = .tup [.agg (stc r l (lastB (0, 0, r) ts).1 (lastB (0, 0, r) ts).2.1 (lastB (0, 0, r) ts).2.2), .bool true, .nili] ∧ Hp S [] S' [(l, .cells (lgc (.ptr g 0)))] [] [] := by
  have hrt := rt_len r
  have p1 : F65 0 (101 :: 87 :: rt r) [99] = some false := pre_c 101 99 _ (by simp; omega)
  have p2 : F65 0 (101 :: 87 :: rt r) [101] = some true := pre_c 101 101 _ (by simp; omega)
  have p3 : F65 0 (87 :: rt r) [87] = some true := pre_c 87 87 _ (by omega)
  have hat : Sl.at? (some (wrec r :: ts.map rrec)) 0 = some (101 :: 87 :: rt r) := rfl
  refine WB.of (pf := fn29) rfl ?_
  have H := Hp.start S
  refine WC.seqR (Wa (cs := z60) H rfl fun i2 S1 hi2 H => us 2 rfl (WO.nil ?_))
  refine WC.seqR (Wa (cs := z60) H rfl fun i5 S1 hi5 H => WO.nil ?_)
  refine WC.seqR (us 1 rfl (WO.nil ?_))
  refine WC.seqR (us 1 rfl (WO.nil ?_))
  refine WC.seq (WC.seqR (us 3 rfl (WO.nil ?_)))
  refine WC.reset (l := [(2, .ptr i2 0), (5, .ptr i5 0), (6, .str []), (7, .int .i64 0), (10, .lst ((wrec r :: ts.map rrec).map eS) .none), (11, .int .i64 (((wrec r :: ts.map rrec).map eS).length : Int)), (12, .int .i64 0)])
    (known_cons rfl (known_cons rfl (known_cons rfl (known_cons rfl (known_cons rfl (known_cons rfl (known_cons rfl known_nil))))))) fun σ0 => ?_
  refine WC.block (WC.loop (WC.seqR (us 1 rfl (WO.nil ?_))))
  refine WC.seq (WC.condT (t := decide ((0 : Int) < (((wrec r :: ts.map rrec).map eS).length : Int))) rfl (decide_eq_true (by simp only [List.map_cons, List.length_cons]; omega)) (WC.skip (KX.seq_n ?_)))
  refine WC.seq (WC.block ?_)
  refine WC.seqR (us 1 rfl ?_)
  refine WO.step (v := .iptr [.str (101 :: 87 :: rt r)] 0) rfl (nz rfl (stp_idxAddr (f := eS) (x := some (wrec r :: ts.map rrec)) rfl ⟨.none, rfl⟩ rfl rfl rfl hat rfl rfl)) (us 3 rfl (WO.nil ?_))
  refine WC.seq (WC.block ?_)
  refine WC.seqR (us 1 rfl ?_)
  refine WO.step rfl (nz rfl (stp_call rfl rfl (s65 0 p1 rfl _))) (us 1 rfl (WO.nil ?_))
  refine WC.condF rfl rfl ?_
  refine WC.seqR (us 1 rfl ?_)
  refine WO.step rfl (nz rfl (stp_call rfl rfl (s65 0 p2 rfl _))) (us 1 rfl (WO.nil ?_))
  refine WC.condT rfl rfl (WC.region (us 2 rfl ?_))
  refine WO.step (v := .str (87 :: rt r)) rfl (nz rfl (stp_subStr rfl rfl rfl rfl (sub1 101 (87 :: rt r)))) ?_
  refine WO.step (v := .str (87 :: rt r)) rfl (nz rfl (stp_strApp rfl rfl (app_nil _ (by simp; omega)))) (us 1 rfl (WO.nil (KX.block_n (KX.seq_n ?_))))
  refine WC.seq (WC.seqR (us 4 rfl ?_))
  refine WO.go0 rfl rfl (WO.step rfl (nz rfl (stp_call rfl rfl (s65 0 p3 rfl _))) (us 4 rfl ?_))
  obtain ⟨S2, l, g, h66, H⟩ := does_W hr H
  refine WO.go0 rfl rfl (WO.step rfl (nz rfl (stp_call rfl rfl h66)) (us 2 rfl (WO.nil ?_)))
  refine WC.condF rfl rfl (WC.skip (KX.seq_n ?_))
  refine WC.seqR (us 1 rfl (WO.nil ?_))
  refine WC.region (us 3 rfl (WO.nil (KX.block_n (KX.seq_n ?_))))
  refine WC.region (us 2 rfl (WO.nil (KX.seq_n ?_)))
  have hlm : (((wrec r :: ts.map rrec).map eS).length : Int) = ((wrec r :: ts.map rrec).length : Int) := by rw [List.length_map]
  refine replayL (X := wrec r :: ts.map rrec) (l := l) (g := g) (r := r) (by simp; omega) hi5 (lastB (0, 0, r) ts) ?_ ts 1 1 _ _ _ (0, 0, r) (by simp) (by simp; omega) (by omega) (by omega) hts rfl
    (known_cons rfl (known_cons rfl (known_cons rfl (known_cons rfl (known_cons rfl (known_cons (Eq.trans rfl (congrArg (PV.int .i64) hlm)) (known_cons rfl known_nil))))))) H
  intro σ' S' e' k hk hσ H
  refine KX.block_x (KX.seq_n (WC.of_known hσ ?_))
  refine WC.seq (WC.seqR (us 1 rfl ?_))
  refine WO.step (v := .bool false) rfl (nb (t := (k : Int) == 0) rfl rfl (by simp; omega)) (WO.nil ?_)
  refine WC.condF rfl rfl (WC.skip (KX.seq_n ?_))
  refine WC.seqR ?_
  refine Wg H 1 rfl (us 2 rfl ?_)
  generalize lastB (0, 0, ↑r) ts = b at *
  refine WO.store 2 rfl rfl H rfl (off := 0) (sz := 7) (xc := stc r l b.1 b.2.1 b.2.2) (cs' := stc r l b.1 b.2.1 b.2.2) (v := .agg (stc r l b.1 b.2.1 b.2.2)) rfl rfl rfl rfl rfl rfl (Nat.le_of_ble_eq_true rfl) rfl (own_e hi2) fun S3 H => ?_
  refine us 2 rfl (WO.nil ?_)
  refine WC.ret (KB.ret (vs := [.agg (stc r l b.1 b.2.1 b.2.2), .bool true, .nili]) (res_cell rfl (H.get 2 rfl) rfl (res_tmp rfl (res_tmp rfl res_nil))) (fl_cons' rfl (fl_cons' rfl (fl_cons' rfl rfl))) ?_)
  exact ⟨l, g, rfl, H.sub (.cons_cons _ (.cons _ (.cons _ .slnil))) .slnil .slnil⟩
theorem s29 {r : Nat} (hr : r < 4) (ts : List Nm) (hts : ∀ t ∈ ts, IsN t) (hlen : ts.length ≤ 40) (S : List SObj) :
    ∃ S' l g e, evw env 29 [.lst ((wrec r :: ts.map rrec).map eS) .none] S = some (.tup [.agg (stc r l (lastB (0, 0, r) ts).1 (lastB (0, 0, r) ts).2.1 (lastB (0, 0, r) ts).2.2), .bool true, .nili], S', e) ∧ Hp S [] S' [(l, .cells (lgc (.ptr g 0)))] [] [] := by
  have hcl : (PV.lst ((wrec r :: ts.map rrec).map eS) .none).strip = .lst ((wrec r :: ts.map rrec).map eS) .none := strip_enc (f := eS) (x := some (wrec r :: ts.map rrec))
  obtain ⟨q, h1, S', l, g, e, rfl, h2⟩ := evw_genW (f := 29) (pf := fn29) (args := [.lst ((wrec r :: ts.map rrec).map eS) .none]) (S := S) (K := fun q => ∃ S' l g e, q = (.tup [.agg (stc r l (lastB (0, 0, r) ts).1 (lastB (0, 0, r) ts).2.1 (lastB (0, 0, r) ts).2.2), .bool true, .nili], S', e) ∧ Hp S [] S' [(l, .cells (lgc (.ptr g 0)))] [] []) rfl rfl
    (by rw [List.map_cons, List.map_nil, hcl]) (Nat.le_of_ble_eq_true rfl) (by
      have := clean_encSl clean_eS (some (wrec r :: ts.map rrec))
      show ((PV.lst ((wrec r :: ts.map rrec).map eS) .none).clean && true) = true
      rw [Bool.and_true]; exact this)
    (WB.mono' (replayB hr ts hts hlen []) fun v S' e hv => by
      obtain ⟨l, g, rfl, _⟩ := hv
      rfl)
    (WB.mono' (replayB hr ts hts hlen S) fun v S' e hv => by
      obtain ⟨l, g, rfl, H⟩ := hv
      refine ⟨S', l, g, e, ?_, H⟩
      unfold leave
      rw [if_neg]
      rintro ⟨_, h⟩
      exact absurd h (by show ¬ (false = true); simp))
  exact ⟨S', l, g, e, h1, h2⟩
end Go.Proofs.YtecimmaoilignaaGreatDoor.M.L
