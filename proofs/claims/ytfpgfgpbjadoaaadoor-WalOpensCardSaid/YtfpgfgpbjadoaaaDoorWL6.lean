/- WalRenews: the walk, the law. -/
import Derived.Test.YtfpgfgpbjadoaaaDoorWL
namespace Go.Proofs.YtfpgfgpbjadoaaaDoor.M
set_option linter.unusedVariables false
set_option linter.unusedSimpArgs false
open Go Go.Pam
set_option maxRecDepth 4000
theorem F14_some (k : Nat) (x y : Sl Str) (hb : x.l.length < 1000000) (hk : x.l.length < k) : ∃ b, F14 k x y = some b := by
  unfold F14
  by_cases hl : (Sl.len x != Sl.len y) = true
  · rw [if_pos hl]; exact ⟨_, rfl⟩
  rw [if_neg hl]
  have hl : x.l.length = y.l.length := by simp only [Sl.len_nat, bne_iff_ne, ne_eq, Decidable.not_not] at hl; omega
  have L : ∀ (j fuel i : Nat), i + j = x.l.length → j < fuel → ∃ o, F14_L0 k x y fuel i = some o := by
    intro j
    induction j with
    | zero =>
      intro fuel i hi hf
      obtain ⟨f, rfl⟩ : ∃ f, fuel = f + 1 := ⟨fuel - 1, by omega⟩
      rw [F14_L0, if_neg (by rw [Sl.len_nat]; simp; omega)]
      exact ⟨_, rfl⟩
    | succ j ih =>
      intro fuel i hi hf
      obtain ⟨f, rfl⟩ : ∃ f, fuel = f + 1 := ⟨fuel - 1, by omega⟩
      have e1 : Sl.at? x (i : Int) = some (x.l[i]) := by rw [Sl.at?_nat, List.getElem?_eq_getElem (by omega)]
      have e2 : Sl.at? y (i : Int) = some (y.l[i]) := by rw [Sl.at?_nat, List.getElem?_eq_getElem (by omega)]
      rw [F14_L0, if_pos (by rw [Sl.len_nat]; simp; omega), bnd e1, bnd e2]
      split
      · exact ⟨_, rfl⟩
      · rw [ad_nat (by omega)]; exact ih f (i + 1) (by omega) (by omega)
  obtain ⟨o, ho⟩ := L x.l.length k 0 (by omega) hk
  rw [show ((0 : Nat) : Int) = 0 from rfl] at ho
  rw [bnd ho]
  cases o <;> exact ⟨_, rfl⟩
/-- Written anew: nothing, or it, or with the power gone. -/
theorem renew_is {d : Dsk} {n s p : Str} {r : Nat} (h : DIs d [(n, s)] [(n, s)] [] r) (hp : p.length ≤ 1000000) (hs : s.length ≤ 1000000) (hr : r < 4) (keep : Int) :
    ∃ q e t, d.renew n p = (q, e) ∧ (t = s ∧ e = 22 ∨ t = p ∧ (e = 0 ∨ e = 22)) ∧ DIs (q.crash keep) [(n, t)] [(n, t)] [] (-1) ∧ q.pend.length ≤ 1 ∧ ((q.pend.map (·.b.length)).sum ≤ 1000000) ∧ (q.kept = [(n, s)] ∨ q.kept = [(n, p)]) := by
  have hc : ∀ {q : Dsk} {t : Str} {now : Mp Str} {l : Int}, DIs q [(n, t)] now [] l → DIs (q.crash keep) [(n, t)] [(n, t)] [] (-1) := fun {q t now l} hq => by
    have e : crashL keep q.pend 0 q.kept [] = [(n, t)] := by rw [hq.pend, hq.kept]; rfl
    exact ⟨hq.room, e, e, rfl, rfl⟩
  unfold Dsk.renew
  rcases Nat.eq_zero_or_pos r with rfl | hr0
  · have e1 : d.write n p ⟨n, p, true⟩ = (d, 22) := by unfold Dsk.write; rw [h.left, if_pos (by decide)]
    rw [e1]
    exact ⟨d, 22, s, rfl, .inl ⟨rfl, rfl⟩, hc h, by rw [h.pend]; simp, by rw [h.pend]; simp, .inl h.kept⟩
  obtain ⟨q, e1, h2⟩ := write_is (s := s) (x := p) ⟨n, p, true⟩ h (.inr rfl) (by simp; omega) hp hs
  rw [e1, if_neg (by show ¬ ((0 : Int) != 0) = true; decide)]
  dsimp only
  by_cases h1 : r = 1
  · subst h1
    have h2 : DIs q [(n, s)] [(n, p)] [⟨n, p, true⟩] 0 := h2
    rw [sync_off h2]
    have e : ∃ t, (t = s ∨ t = p) ∧ crashL keep q.pend 0 q.kept [] = [(n, t)] := by
      rw [h2.pend, h2.kept]
      show ∃ t, _ ∧ crash1 keep 0 ⟨n, p, true⟩ [(n, s)] false = _
      unfold crash1
      rw [if_neg (by decide)]
      dsimp only
      by_cases hb : bitK keep 0 = true
      · rw [hb, if_pos rfl, put_one]; exact ⟨p, .inr rfl, rfl⟩
      · have hb : bitK keep 0 = false := by simpa using hb
        rw [hb, if_neg (by decide), if_neg (by decide), if_neg (by simp)]
        exact ⟨s, .inl rfl, rfl⟩
    obtain ⟨t, ht, e⟩ := e
    refine ⟨q, 22, t, rfl, ?_, ⟨h2.room, e, e, rfl, rfl⟩, by rw [h2.pend]; simp, by rw [h2.pend]; simp; omega, .inl h2.kept⟩
    rcases ht with rfl | rfl
    · exact .inl ⟨rfl, rfl⟩
    · exact .inr ⟨rfl, .inr rfl⟩
  · have h0 : (dn (r : Int) == 0) = false := by
      have : r = 2 ∨ r = 3 := by omega
      rcases this with rfl | rfl <;> decide
    obtain ⟨q', e2, h3⟩ := sync_is (s' := s) h2 (.inr rfl) h0
    rw [e2]
    exact ⟨q', 0, p, rfl, .inr ⟨rfl, .inl rfl⟩, hc h3, by rw [h3.pend]; simp, by rw [h3.pend]; simp, .inr h3.kept⟩
abbrev LOG : Str := [108, 111, 103]
theorem renews_walk {l m1 : Sl Str} {st kp : Int} (hst : 0 ≤ st ∧ st < 256) : evw env 6 [encSl eS l, encSl eS m1, .int .u8 st, .int .u64 kp] [] = some (.bool true, [], false) := by
  refine evw_pureW (bs := [encSl eS l, encSl eS m1, .int .u8 st, .int .u64 kp]) (pf := fn6) rfl rfl (by simp only [List.map_cons, List.map_nil, st_int, strip_enc]) (Nat.le_of_ble_eq_true rfl) (by simp [PV.clean, cleanL, clean_encSl clean_eS]) rfl ?_
  refine WB.of (pf := fn6) rfl ?_
  refine WC.seqR (us 1 rfl (WO.nil ?_))
  refine WC.seq (WC.seqR ?_)
  refine WO.step (v := .bool true) rfl (nz rfl (stp_call (vs := []) rfl rfl (s7 0 (r := true) rfl rfl _))) (us 1 rfl (WO.nil ?_))
  refine WC.condF rfl rfl (WC.skip (KX.seq_n ?_))
  refine WC.reset (l := [(0, encSl eS l), (1, encSl eS m1), (2, .int .u8 st), (3, .int .u64 kp)]) (known_cons rfl (known_cons rfl (known_cons rfl (known_cons rfl known_nil)))) fun σ1 => ?_
  have yes : ∀ {K : KX} {σ : Nat → PV}, (∀ σ', σ' 8 = .bool true → K .ret σ' [] false) → WC env ⟨92, 0⟩ (.seq (.region [⟨some 8, .assign (.const (.bool true)), none, false⟩]) .ret) σ [] false K := fun {K σ} h => WC.seqR (us 1 rfl (WO.nil (WC.ret (h _ rfl))))
  have fin : ∀ {σ' : Nat → PV} {S : List SObj} {e : Bool}, σ' 8 = .bool true → KB env ⟨92, [.tmp 8], pc6, false⟩ (fun v' _ _ => v'.strip = .bool true) .ret σ' S e := fun {σ' S e} h => kr (.bool true) h rfl rfl
  -- the lengths
  refine WC.seq (WC.seqR (us 1 rfl ?_))
  refine WO.step rfl (nz rfl (stp_len rfl (isSl_enc _ _) rfl)) ?_
  refine WO.step (v := .bool (decide (Sl.len l > 8))) rfl (nz rfl rfl) (us 1 rfl ?_)
  by_cases n1 : l.l.length ≤ 8
  case neg =>
    rw [show decide (Sl.len l > 8) = true by rw [Sl.len_nat]; simp; omega]
    refine us 4 rfl (WO.nil ?_)
    exact WC.condT rfl rfl (yes fun σ' h => KX.seq_r (fin h))
  rw [show decide (Sl.len l > 8) = false by rw [Sl.len_nat]; simp; omega]
  refine us 1 rfl ?_
  refine WO.go0 (b := false) rfl rfl (WO.step rfl (nz rfl (stp_len rfl (isSl_enc _ _) rfl)) ?_)
  refine WO.go0 (b := false) rfl rfl (WO.step (v := .bool (decide (Sl.len m1 > 8))) rfl (nz rfl rfl) (us 1 rfl (WO.nil ?_)))
  by_cases n2 : m1.l.length ≤ 8
  case neg =>
    rw [show decide (Sl.len m1 > 8) = true by rw [Sl.len_nat]; simp; omega]
    exact WC.condT rfl rfl (yes fun σ' h => KX.seq_r (fin h))
  rw [show decide (Sl.len m1 > 8) = false by rw [Sl.len_nat]; simp; omega]
  refine WC.condF rfl rfl (WC.skip (KX.seq_n ?_))
  -- the records' lengths
  refine WC.seq (WC.seqR (us 1 rfl (WO.nil ?_)))
  refine WC.block (l6a (fun σ' h => KX.block_r (KX.seq_r (fin h))) (fun σ2 hk2 b1 => KX.block_x (KX.seq_n ?_)) (by omega) l.l.length 0 _ (by omega) (by simp) (known_cons rfl (known_cons rfl (known_cons rfl (known_cons rfl (known_cons rfl known_nil))))))
  refine WC.reset hk2 fun σ2 => ?_
  refine WC.seq (WC.seqR (us 1 rfl (WO.nil ?_)))
  refine WC.block (l6b (fun σ' h => KX.block_r (KX.seq_r (fin h))) (fun σ3 hk3 b2 => KX.block_x (KX.seq_n ?_)) (by omega) m1.l.length 0 _ (by omega) (by simp) (known_cons rfl (known_cons rfl (known_cons rfl (known_cons rfl (known_cons rfl known_nil))))))
  refine WC.reset hk3 fun σ3 => ?_
  -- the disk
  have L1 := recs_len b1
  have L2 := recs_len b2
  have H := Hp.start []
  obtain ⟨S1, i, j1, j2, h1, hp, H⟩ := new_dk 1000000 H
  have D : DIs ⟨imin (imax 1000000 0) 1000000, [], [], [], 0, -1⟩ [] [] [] (-1) := ⟨by decide, rfl, rfl, rfl, rfl⟩
  refine WC.seqR ?_
  refine WO.step rfl (nz rfl (stp_call rfl rfl h1)) (us 1 rfl (WO.nil ?_))
  generalize (⟨imin (imax 1000000 0) 1000000, [], [], [], 0, -1⟩ : Dsk) = d0 at *
  refine WC.reset (l := [(0, encSl eS l), (1, encSl eS m1), (2, .int .u8 st), (3, .int .u64 kp), (11, .ptr i 0)]) (known_cons rfl (known_cons rfl (known_cons rfl (known_cons rfl (known_cons rfl known_nil))))) fun σ4 => ?_
  -- the old log
  obtain ⟨d1, e1, D1⟩ := wal_is (n := LOG) (s := []) (s' := []) (p := recs l.l) D (.inl ⟨rfl, rfl⟩) (.inl ⟨rfl, rfl⟩) (by simp; omega)
  have W1 := wal_dk (n := LOG) (p := recs l.l) (k := 1000) (l := l) (lv := encSl eS l) (by rw [D.pend]; exact hp) H (by rw [D.pend]; simp) (by rw [D.now]; simp) (by rw [D.pend]; simp) (isSl_enc _ _) (strip_enc _ _) (F25_eq 1000 l (by omega) b1 (by omega)) (by rw [D.now]; simp [Mp.get?]; omega)
  rw [e1] at W1
  obtain ⟨S2, v2, o2, x2, h2, hp2, H2, _⟩ := W1
  refine WC.seq (WC.seqR (us 2 rfl ?_))
  refine WO.step (v := .int .i64 0) rfl (nz (fz_tmp' rfl (fo rfl (fz_tmp' (isSl_enc _ _).frz rfl))) (stp_call rfl rfl h2)) (us 1 rfl (WO.nil ?_))
  refine WC.condF rfl rfl (WC.skip (KX.seq_n ?_))
  rw [List.nil_append] at D1
  -- so many steps
  obtain ⟨r, hr, er⟩ := rem?_nat (a := st) hst.1 (n := 4) (by omega)
  have ecv : imax (cv .i64 (r : Int)) 0 = (r : Int) := by rw [cv64 (by omega)]; unfold imax; rw [if_neg (by omega)]
  obtain ⟨S3, v3, o3, x3, h3, hp3, H3, _⟩ := limit_dk (n := cv .i64 (r : Int)) hp2 H2
  refine WC.reset (l := [(0, encSl eS l), (1, encSl eS m1), (2, .int .u8 st), (3, .int .u64 kp), (11, .ptr i 0)]) (known_cons rfl (known_cons rfl (known_cons rfl (known_cons rfl (known_cons rfl known_nil))))) fun σ5 => ?_
  refine WC.seqR (us 2 rfl ?_)
  refine WO.step rfl (nz rfl (stp_rem rfl rfl er)) (us 1 rfl ?_)
  refine WO.step rfl (nz rfl (stp_call rfl rfl h3)) (WO.nil ?_)
  rw [ecv] at H3 hp3
  have D2 : DIs { d1 with left := (r : Int) } [(LOG, recs l.l)] [(LOG, recs l.l)] [] r := ⟨D1.room, D1.kept, D1.now, D1.pend, rfl⟩
  generalize ({ d1 with left := (r : Int) } : Dsk) = d2 at *
  -- anew
  obtain ⟨q, en, t, eq, ht, D4, g1, g2, g3⟩ := renew_is (p := recs m1.l) D2 (by omega) (by omega) hr kp
  have W3 := renew_dk (n := LOG) (p := recs m1.l) (k := 1000) (l := m1) (lv := encSl eS m1) hp3 H3 (by rw [D2.pend]; simp) (by rw [D2.now]; simp) (by rw [D2.pend]; simp) (isSl_enc _ _) (strip_enc _ _) (F25_eq 1000 m1 (by omega) b2 (by omega))
  rw [eq] at W3
  obtain ⟨S4, v4, o4, x4, h4, hp4, H4, _⟩ := W3
  refine WC.reset (l := [(0, encSl eS l), (1, encSl eS m1), (3, .int .u64 kp), (11, .ptr i 0)]) (known_cons rfl (known_cons rfl (known_cons rfl (known_cons rfl known_nil)))) fun σ6 => ?_
  refine WC.seqR (us 2 rfl ?_)
  refine WO.step (v := .int .i64 en) rfl (nz (fz_tmp' rfl (fo rfl (fz_tmp' (isSl_enc _ _).frz rfl))) (stp_call rfl rfl h4)) (us 1 rfl (WO.nil ?_))
  -- the power lost
  have hbnd : ∀ nm, ((Mp.get? q.kept nm).getD []).length + (q.pend.map (·.b.length)).sum ≤ 1000000000 := fun nm => by
    have : ((Mp.get? q.kept nm).getD []).length ≤ 1000000 := by
      rcases g3 with g3 | g3 <;> rw [g3] <;> simp only [Mp.get?] <;> split <;> simp <;> omega
    omega
  obtain ⟨S5, j5, h5, hp5, H5⟩ := crash_dk (keep := kp) hp4 H4 (show q.pend.length ≤ 1000000 by omega) hbnd
  refine WC.reset (l := [(0, encSl eS l), (1, encSl eS m1), (3, .int .u64 kp), (11, .ptr i 0), (12, .int .i64 en)]) (known_cons rfl (known_cons rfl (known_cons rfl (known_cons rfl (known_cons rfl known_nil))))) fun σ7 => ?_
  refine WC.seqR (us 2 rfl ?_)
  refine WO.step rfl (nz rfl (stp_call rfl rfl h5)) (WO.nil ?_)
  -- opened
  obtain ⟨X, hX, hXb, hXn, hXe⟩ : ∃ X : Sl Str, t = recs X.l ∧ (∀ b ∈ X.l, b.length ≤ 100) ∧ X.l.length ≤ 8 ∧ (X = l ∧ en = 22 ∨ X = m1 ∧ (en = 0 ∨ en = 22)) := by
    rcases ht with ⟨rfl, rfl⟩ | ⟨rfl, he⟩
    · exact ⟨l, rfl, b1, n1, .inl ⟨rfl, rfl⟩⟩
    · exact ⟨m1, rfl, b2, n2, .inr ⟨rfl, he⟩⟩
  have L3 := recs_len hXb
  rw [← hX] at L3
  obtain ⟨Y, f8, hY⟩ := F8_eq 1000 t (by omega) (by omega)
  rw [hX, scan_all X.l 1000 0 (by omega) hXb, ← hX] at f8 hY
  dsimp only at f8 hY
  rw [Nat.zero_add] at f8
  obtain ⟨d6, D6, hd6⟩ := open_is (m := t.length) D4 (by omega) (by omega)
  obtain ⟨S6, v6, o6, x6, h6, hp6, H6, _⟩ := open_dk (n := LOG) (s := t) (k := 1000) (m := t.length) (X := Y) (d' := d6) (by rw [D4.pend]; exact hp5) H5 (by rw [D4.pend]; simp) (by rw [D4.now]; simp) (by rw [D4.pend]; simp) (by rw [D4.left]; rfl) (by rw [D4.now]; exact get_one ..) f8 (by omega) hd6
  refine WC.reset (l := [(0, encSl eS l), (1, encSl eS m1), (11, .ptr i 0), (12, .int .i64 en)]) (known_cons rfl (known_cons rfl (known_cons rfl (known_cons rfl known_nil)))) fun σ8 => ?_
  refine WC.seqR (us 1 rfl ?_)
  refine WO.step rfl (nz rfl (stp_call rfl rfl h6)) (us 5 rfl (WO.nil ?_))
  have hen : en = 0 ∨ en = 22 := by rcases hXe with ⟨_, h⟩ | ⟨_, h⟩ <;> omega
  refine WC.reset (l := [(0, encSl eS l), (1, encSl eS m1), (12, .int .i64 en), (13, encSl eS Y), (14, .int .i64 0)]) (known_cons rfl (known_cons rfl (known_cons rfl (known_cons rfl (known_cons rfl known_nil))))) fun σ9 => ?_
  refine WC.seq (WC.seqR ?_)
  have rest : ∀ {σ : Nat → PV} {e : Bool}, Known [(0, encSl eS l), (1, encSl eS m1), (12, .int .i64 en), (13, encSl eS Y)] σ → WC env ⟨92, 0⟩ (.seq (.region [⟨some 80, .move (.tmp 13), none, false⟩,
    ⟨some 81, .move (.tmp 1), none, false⟩,
    ⟨some 82, .call ⟨.value (.func 14), #[.tmp 80, .tmp 81], #[23, 23]⟩, none, false⟩,
    ⟨some 83, .move (.tmp 82), none, false⟩,
    ⟨some 84, .move (.tmp 12), some (83, false), false⟩,
    ⟨some 85, .binOp .neq 24 (.tmp 84) (.const (.int .i64 0)) 24, some (83, false), false⟩,
    ⟨some 86, .move (.tmp 85), some (83, false), false⟩,
    ⟨some 87, .move (.tmp 13), some (86, true), false⟩,
    ⟨some 88, .move (.tmp 0), some (86, true), false⟩,
    ⟨some 89, .call ⟨.value (.func 14), #[.tmp 87, .tmp 88], #[23, 23]⟩, some (86, true), false⟩,
    ⟨some 90, .pick (.tmp 86) (.tmp 89) (.const (.bool false)), some (83, false), false⟩,
    ⟨some 91, .pick (.tmp 83) (.const (.bool true)) (.tmp 90), none, false⟩,
    ⟨some 8, .assign (.tmp 91), none, false⟩]) .ret) σ S6 e (KB env ⟨92, [.tmp 8], pc6, false⟩ fun v' _ _ => v'.strip = .bool true) := fun {σ e} hk => by
    refine WC.reset hk fun σ0 => WC.seqR (us 2 rfl ?_)
    obtain ⟨bb, hbb⟩ := F14_some 1000 Y m1 (by rw [hY]; omega) (by rw [hY]; omega)
    refine WO.step (v := .bool bb) rfl (nz (fz_tmp' (isSl_enc _ _).frz (fz_tmp' (isSl_enc _ _).frz rfl)) (stp_call (vs := [encSl eS Y, encSl eS m1]) rfl rfl (s14 1000 hbb (by simp only [strip_enc, List.map_cons, List.map_nil]) _))) ?_
    cases bb with
    | true => exact us 10 rfl (WO.nil (WC.ret (fin rfl)))
    | false =>
      rcases hXe with ⟨rfl, rfl⟩ | ⟨rfl, _⟩
      · refine us 6 rfl ?_
        refine WO.go0 (b := true) rfl rfl ?_
        refine WO.step (v := .bool true) rfl (nz (fz_tmp' (isSl_enc _ _).frz (fz_tmp' (isSl_enc _ _).frz rfl)) (stp_call (vs := [encSl eS Y, encSl eS X]) rfl rfl (s14 1000 (F14_same 1000 Y X hY (by rw [hY]; omega) (by rw [hY]; omega)) (by simp only [strip_enc, List.map_cons, List.map_nil]) _))) ?_
        exact us 3 rfl (WO.nil (WC.ret (fin rfl)))
      · have := F14_same 1000 Y X hY (by rw [hY]; omega) (by rw [hY]; omega)
        rw [this] at hbb; cases hbb
  rcases hen with rfl | rfl
  · refine us 10 rfl (WO.nil ?_)
    exact WC.condF rfl rfl (WC.skip (KX.seq_n (rest (known_cons rfl (known_cons rfl (known_cons rfl (known_cons rfl known_nil)))))))
  · refine us 10 rfl (WO.nil ?_)
    exact WC.condF rfl rfl (WC.skip (KX.seq_n (rest (known_cons rfl (known_cons rfl (known_cons rfl (known_cons rfl known_nil)))))))
theorem walRenews_true (a0 a1 : Sl Str) (a2 a3 : Int) (_ : ((Sl.l a0).length ≤ maxLen ∧ ∀ a ∈ Sl.l a0, a.length ≤ maxLen)) (_ : ((Sl.l a1).length ≤ maxLen ∧ ∀ a ∈ Sl.l a1, a.length ≤ maxLen)) (o2 : (Lit.int .u8 a2).wf = true) (_ : (Lit.int .u64 a3).wf = true) :
    evw env 6 [encSl eS a0, encSl eS a1, .int .u8 a2, .int .u64 a3] [] = some (.bool true, [], false) := by
  refine renews_walk ?_
  simp only [Lit.wf, IntKind.min, IntKind.max, IntKind.signed, IntKind.bits, Bool.and_eq_true] at o2
  have : (2 : Int) ^ 8 = 256 := by decide
  simp at o2
  omega
end Go.Proofs.YtfpgfgpbjadoaaaDoor.M
