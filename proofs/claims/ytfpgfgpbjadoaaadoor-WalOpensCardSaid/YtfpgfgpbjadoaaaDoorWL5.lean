/- WalOpens: the walk, the law. -/
import Derived.Test.YtfpgfgpbjadoaaaDoorWL6
namespace Go.Proofs.YtfpgfgpbjadoaaaDoor.M
set_option linter.unusedVariables false
set_option linter.unusedSimpArgs false
open Go Go.Pam
set_option maxRecDepth 4000
theorem opens_walk {l m1 : Sl Str} {kp : Int} {z : Str} : evw env 5 [encSl eS l, encSl eS m1, .int .u64 kp, .str z] [] = some (.bool true, [], false) := by
  refine evw_pureW (bs := [encSl eS l, encSl eS m1, .int .u64 kp, .str z]) (pf := fn5) rfl rfl (by simp only [List.map_cons, List.map_nil, st_int, st_str, strip_enc]) (Nat.le_of_ble_eq_true rfl) (by simp [PV.clean, cleanL, clean_encSl clean_eS]) rfl ?_
  refine WB.of (pf := fn5) rfl ?_
  refine WC.seqR (us 1 rfl (WO.nil ?_))
  refine WC.seq (WC.seqR ?_)
  refine WO.step (v := .bool true) rfl (nz rfl (stp_call (vs := []) rfl rfl (s7 0 (r := true) rfl rfl _))) (us 1 rfl (WO.nil ?_))
  refine WC.condF rfl rfl (WC.skip (KX.seq_n ?_))
  refine WC.reset (l := [(0, encSl eS l), (1, encSl eS m1), (2, .int .u64 kp), (3, .str z)]) (known_cons rfl (known_cons rfl (known_cons rfl (known_cons rfl known_nil)))) fun σ1 => ?_
  have yes : ∀ {K : KX} {σ : Nat → PV}, (∀ σ', σ' 8 = .bool true → K .ret σ' [] false) → WC env ⟨134, 0⟩ (.seq (.region [⟨some 8, .assign (.const (.bool true)), none, false⟩]) .ret) σ [] false K := fun {K σ} h => WC.seqR (us 1 rfl (WO.nil (WC.ret (h _ rfl))))
  have fin : ∀ {σ' : Nat → PV} {S : List SObj} {e : Bool}, σ' 8 = .bool true → KB env ⟨134, [.tmp 8], pc5, false⟩ (fun v' _ _ => v'.strip = .bool true) .ret σ' S e := fun {σ' S e} h => kr (.bool true) h rfl rfl
  -- the lengths
  refine WC.seq (WC.seqR (us 1 rfl ?_))
  refine WO.step rfl (nz rfl (stp_len rfl (isSl_enc _ _) rfl)) ?_
  refine WO.step (v := .bool (decide (Sl.len l > 10))) rfl (nz rfl rfl) (us 1 rfl ?_)
  by_cases n1 : l.l.length ≤ 10
  case neg =>
    rw [show decide (Sl.len l > 10) = true by rw [Sl.len_nat]; simp; omega]
    refine us 9 rfl (WO.nil ?_)
    exact WC.condT rfl rfl (yes fun σ' h => KX.seq_r (fin h))
  rw [show decide (Sl.len l > 10) = false by rw [Sl.len_nat]; simp; omega]
  refine us 1 rfl ?_
  refine WO.go0 (b := false) rfl rfl (WO.step rfl (nz rfl (stp_len rfl (isSl_enc _ _) rfl)) ?_)
  refine WO.go0 (b := false) rfl rfl (WO.step (v := .bool (decide (Sl.len m1 > 10))) rfl (nz rfl rfl) (us 2 rfl ?_))
  by_cases n2 : m1.l.length ≤ 10
  case neg =>
    rw [show decide (Sl.len m1 > 10) = true by rw [Sl.len_nat]; simp; omega]
    refine us 4 rfl (WO.nil ?_)
    exact WC.condT rfl rfl (yes fun σ' h => KX.seq_r (fin h))
  rw [show decide (Sl.len m1 > 10) = false by rw [Sl.len_nat]; simp; omega]
  refine us 2 rfl ?_
  refine WO.go0 (b := false) rfl rfl (WO.step (v := .bool (decide (Str.len z > 100))) rfl (nz rfl rfl) (us 1 rfl (WO.nil ?_)))
  by_cases n3 : z.length ≤ 100
  case neg =>
    rw [show decide (Str.len z > 100) = true by rw [Str.len_nat]; simp; omega]
    exact WC.condT rfl rfl (yes fun σ' h => KX.seq_r (fin h))
  rw [show decide (Str.len z > 100) = false by rw [Str.len_nat]; simp; omega]
  refine WC.condF rfl rfl (WC.skip (KX.seq_n ?_))
  -- the records' lengths
  refine WC.seq (WC.seqR (us 1 rfl (WO.nil ?_)))
  refine WC.block (l5a (fun σ' h => KX.block_r (KX.seq_r (fin h))) (fun σ2 hk2 b1 => KX.block_x (KX.seq_n ?_)) (by omega) l.l.length 0 _ (by omega) (by simp) (known_cons rfl (known_cons rfl (known_cons rfl (known_cons rfl (known_cons rfl known_nil))))))
  refine WC.reset hk2 fun σ2 => ?_
  refine WC.seq (WC.seqR (us 1 rfl (WO.nil ?_)))
  refine WC.block (l5b (fun σ' h => KX.block_r (KX.seq_r (fin h))) (fun σ3 hk3 b2 => KX.block_x (KX.seq_n ?_)) (by omega) m1.l.length 0 _ (by omega) (by simp) (known_cons rfl (known_cons rfl (known_cons rfl (known_cons rfl (known_cons rfl known_nil))))))
  refine WC.reset hk3 fun σ3 => ?_
  -- the disk
  have L1 := recs_len b1
  have L2 := recs_len b2
  have H := Hp.start []
  obtain ⟨S1, i, j1, j2, h1, hp, H⟩ := new_dk 1000000 H
  have D : DIs ⟨imin (imax 1000000 0) 1000000, [], [], [], 0, -1⟩ [] [] [] (-1) := ⟨by decide, rfl, rfl, rfl, rfl⟩
  refine WC.seqR ?_
  refine WO.step rfl (nz rfl (stp_call rfl rfl h1)) (us 1 rfl (WO.nil ?_))
  generalize (⟨imin (imax 1000000 0) 1000000, [], [], [], 0, -1⟩ : Dsk) = d0 at *
  refine WC.reset (l := [(0, encSl eS l), (1, encSl eS m1), (2, .int .u64 kp), (3, .str z), (11, .ptr i 0)]) (known_cons rfl (known_cons rfl (known_cons rfl (known_cons rfl (known_cons rfl known_nil))))) fun σ4 => ?_
  -- the old log
  obtain ⟨d1, e1, D1⟩ := wal_is (n := LOG) (s := []) (s' := []) (p := recs l.l) D (.inl ⟨rfl, rfl⟩) (.inl ⟨rfl, rfl⟩) (by simp; omega)
  have W1 := wal_dk (n := LOG) (p := recs l.l) (k := 1000) (l := l) (lv := encSl eS l) (by rw [D.pend]; exact hp) H (by rw [D.pend]; simp) (by rw [D.now]; simp) (by rw [D.pend]; simp) (isSl_enc _ _) (strip_enc _ _) (F25_eq 1000 l (by omega) b1 (by omega)) (by rw [D.now]; simp [Mp.get?]; omega)
  rw [e1] at W1
  obtain ⟨S2, v2, o2, x2, h2, hp2, H2, _⟩ := W1
  refine WC.seq (WC.seqR (us 2 rfl ?_))
  refine WO.step (v := .int .i64 0) rfl (nz (fz_tmp' rfl (fo rfl (fz_tmp' (isSl_enc _ _).frz rfl))) (stp_call rfl rfl h2)) (us 1 rfl (WO.nil ?_))
  refine WC.condF rfl rfl (WC.skip (KX.seq_n ?_))
  rw [List.nil_append] at D1
  -- one step
  obtain ⟨S3, v3, o3, x3, h3, hp3, H3, _⟩ := limit_dk (n := 1) hp2 H2
  refine WC.reset (l := [(0, encSl eS l), (1, encSl eS m1), (2, .int .u64 kp), (3, .str z), (11, .ptr i 0)]) (known_cons rfl (known_cons rfl (known_cons rfl (known_cons rfl (known_cons rfl known_nil))))) fun σ5 => ?_
  refine WC.seqR (us 1 rfl ?_)
  refine WO.step rfl (nz rfl (stp_call rfl rfl h3)) (WO.nil ?_)
  have D2 : DIs { d1 with left := imax 1 0 } [(LOG, recs l.l)] [(LOG, recs l.l)] [] 1 := ⟨D1.room, D1.kept, D1.now, D1.pend, rfl⟩
  generalize ({ d1 with left := imax 1 0 } : Dsk) = d2 at *
  -- more
  obtain ⟨d3, e3, D3⟩ := wal_off (n := LOG) (s := recs l.l) (p := recs m1.l) D2 (.inr rfl) (by omega)
  have W3 := wal_dk (n := LOG) (p := recs m1.l) (k := 1000) (l := m1) (lv := encSl eS m1) hp3 H3 (by rw [D2.pend]; simp) (by rw [D2.now]; simp) (by rw [D2.pend]; simp) (isSl_enc _ _) (strip_enc _ _) (F25_eq 1000 m1 (by omega) b2 (by omega)) (by rw [D2.now, get_one]; simp; omega)
  rw [e3] at W3
  obtain ⟨S4, v4, o4, x4, h4, hp4, H4, _⟩ := W3
  refine WC.seqR (us 2 rfl ?_)
  refine WO.step (v := .int .i64 22) rfl (nz (fz_tmp' rfl (fo rfl (fz_tmp' (isSl_enc _ _).frz rfl))) (stp_call rfl rfl h4)) (us 1 rfl (WO.nil ?_))
  -- the power lost
  have hbnd : ∀ nm, ((Mp.get? d3.kept nm).getD []).length + (d3.pend.map (·.b.length)).sum ≤ 1000000000 := fun nm => by
    have : ((Mp.get? d3.kept nm).getD []).length ≤ 1000000 := by
      rw [D3.kept]; simp only [Mp.get?]; split <;> simp <;> omega
    rw [D3.pend]; simp; omega
  obtain ⟨S5, j5, h5, hp5, H5⟩ := crash_dk (keep := kp) hp4 H4 (show d3.pend.length ≤ 1000000 by rw [D3.pend]; simp) hbnd
  obtain ⟨c, D4⟩ := crash_is (keep := kp) D3
  refine WC.reset (l := [(0, encSl eS l), (1, encSl eS m1), (2, .int .u64 kp), (3, .str z), (11, .ptr i 0), (12, .int .i64 22)]) (known_cons rfl (known_cons rfl (known_cons rfl (known_cons rfl (known_cons rfl (known_cons rfl known_nil)))))) fun σ7 => ?_
  refine WC.seqR (us 2 rfl ?_)
  refine WO.step rfl (nz rfl (stp_call rfl rfl h5)) (WO.nil ?_)
  -- opened
  generalize d3.crash kp = d4 at *
  obtain ⟨j, hj, hjc⟩ := scan_cut2 m1.l (5000 - l.l.length) (0 + (recs l.l).length) c b2
  have hs := scan_pre l.l ((recs m1.l).take c) (5000 - l.l.length) 0 b1
  rw [show l.l.length + (5000 - l.l.length) = 5000 by omega, hj] at hs
  dsimp only at hs
  have hpre : recs m1.l = recs (m1.l.take j) ++ recs (m1.l.drop j) := recs_take _ _
  have hlen2 : (recs (m1.l.take j)).length ≤ (recs m1.l).length := by rw [hpre, List.length_append]; omega
  have hcut : (recs l.l ++ (recs m1.l).take c).take ((recs l.l).length + (recs (m1.l.take j)).length) = recs (l.l ++ m1.l.take j) := by
    rw [List.take_length_add_append, recs_append, List.take_take, Nat.min_eq_left hjc]
    congr 1
    conv => lhs; rw [hpre]
    exact List.take_left
  have hlt : (recs l.l ++ (recs m1.l).take c).length ≤ 2200 := by rw [List.length_append, List.length_take]; omega
  have hml : (recs l.l).length + (recs (m1.l.take j)).length ≤ (recs l.l ++ (recs m1.l).take c).length := by rw [List.length_append, List.length_take]; omega
  generalize recs l.l ++ (recs m1.l).take c = t at *
  obtain ⟨Y, f8, hY⟩ := F8_eq 5000 t (by omega) (by omega)
  rw [hs] at f8 hY
  dsimp only at f8 hY
  rw [Nat.zero_add] at f8
  have b3 : ∀ b ∈ l.l ++ m1.l.take j, b.length ≤ 100 := fun b hb => by
    rcases List.mem_append.1 hb with h | h
    · exact b1 b h
    · exact b2 b (List.mem_of_mem_take h)
  have n4 : (l.l ++ m1.l.take j).length = l.l.length + min j m1.l.length := by rw [List.length_append, List.length_take]
  obtain ⟨d5, D5, hd5⟩ := open_is (m := (recs l.l).length + (recs (m1.l.take j)).length) D4 hml (by omega)
  rw [hcut] at D5
  obtain ⟨S6, v6, o6, x6, h6, hp6, H6, _⟩ := open_dk (n := LOG) (s := t) (k := 5000) (X := Y) (d' := d5) (by rw [D4.pend]; exact hp5) H5 (by rw [D4.pend]; simp) (by rw [D4.now]; simp) (by rw [D4.pend]; simp) (by rw [D4.left]; rfl) (by rw [D4.now]; exact get_one ..) f8 hml hd5
  refine WC.reset (l := [(0, encSl eS l), (1, encSl eS m1), (3, .str z), (11, .ptr i 0), (12, .int .i64 22)]) (known_cons rfl (known_cons rfl (known_cons rfl (known_cons rfl (known_cons rfl known_nil))))) fun σ8 => ?_
  refine WC.seqR (us 1 rfl ?_)
  refine WO.step rfl (nz rfl (stp_call rfl rfl h6)) (us 5 rfl (WO.nil ?_))
  refine WC.reset (l := [(0, encSl eS l), (1, encSl eS m1), (3, .str z), (11, .ptr i 0), (12, .int .i64 22), (13, encSl eS Y), (14, .int .i64 0)]) (known_cons rfl (known_cons rfl (known_cons rfl (known_cons rfl (known_cons rfl (known_cons rfl (known_cons rfl known_nil))))))) fun σ9 => ?_
  -- is it those, and some of these?
  refine WC.seq (WC.seqR (us 8 rfl ?_))
  refine WO.go0 (b := false) rfl rfl (WO.step rfl (nz rfl (stp_len rfl (isSl_enc _ _) rfl)) (us 1 rfl ?_))
  refine WO.go0 (b := false) rfl rfl (WO.step rfl (nz rfl (stp_len rfl (isSl_enc _ _) rfl)) ?_)
  refine WO.go0 (b := false) rfl rfl (WO.step (v := .bool (decide (Sl.len Y < Sl.len l))) rfl (nz rfl rfl) ?_)
  rw [show decide (Sl.len Y < Sl.len l) = false by rw [Sl.len_nat, Sl.len_nat, hY, n4]; simp; omega]
  refine us 3 rfl ?_
  refine WO.reset (l := [(0, encSl eS l), (1, encSl eS m1), (3, .str z), (11, .ptr i 0), (13, encSl eS Y), (88, .bool false), (89, encSl eS Y)]) (known_cons rfl (known_cons rfl (known_cons rfl (known_cons rfl (known_cons rfl (known_cons rfl (known_cons rfl known_nil))))))) fun σ10 => ?_
  refine WO.go0 (b := false) rfl rfl (WO.step rfl (nz rfl (stp_len rfl (isSl_enc _ _) rfl)) (us 1 rfl ?_))
  refine WO.go0 (b := false) rfl rfl (WO.step rfl (nz rfl (stp_len rfl (isSl_enc _ _) rfl)) (us 1 rfl ?_))
  refine WO.go0 (b := false) rfl rfl (WO.step rfl (nz rfl (stp_len rfl (isSl_enc _ _) rfl)) (us 1 rfl ?_))
  refine WO.go0 (b := false) rfl rfl (WO.step (v := .bool (decide (Sl.len Y > ad .i64 (Sl.len l) (Sl.len m1)))) rfl (nz rfl rfl) ?_)
  rw [show decide (Sl.len Y > ad .i64 (Sl.len l) (Sl.len m1)) = false by rw [Sl.len_nat, Sl.len_nat, Sl.len_nat, hY, n4, ad64 (by omega)]; simp; omega]
  refine us 2 rfl ?_
  refine WO.reset (l := [(0, encSl eS l), (1, encSl eS m1), (3, .str z), (11, .ptr i 0), (13, encSl eS Y), (98, .bool false)]) (known_cons rfl (known_cons rfl (known_cons rfl (known_cons rfl (known_cons rfl (known_cons rfl known_nil)))))) fun σ11 => ?_
  refine us 2 rfl ?_
  obtain ⟨z1, hz1, lz1⟩ := Sl.app?_l (bytes := 16) (x := (none : Sl Str)) (ys := l.l) (by show (0 + l.l.length) * 16 ≤ 2 ^ 47; omega)
  have H6 := H6.addNil 1
  refine WO.go0 (b := false) rfl rfl (WO.ex rfl (nzx (fz_tmp' (isSl_enc _ _).frz rfl) (stp_app (f := eS) (ei := ty9) H6 0 rfl rfl (isSl_nil _) rfl (isSl_enc eS l) rfl rfl rfl rfl (fun _ => rfl) hz1)) ?_)
  rintro w1 S7 ⟨hw1, H7⟩
  replace H7 : Hp [] [] S7 (DC i j1 j5 v6 d5 []) [(w1, 1)] [(v6, o6)] := H7
  refine us 1 rfl ?_
  rw [Sl.l_none, List.nil_append] at lz1
  obtain ⟨z2, hz2, lz2⟩ := Sl.app?_l (bytes := 16) (x := z1) (ys := m1.l) (by rw [lz1]; omega)
  refine WO.go0 (b := false) rfl rfl (WO.ex rfl (nzx (fz_tmp' (isSl_enc _ _).frz rfl) (stp_app (f := eS) (ei := ty9) H7 0 rfl rfl hw1 rfl (isSl_enc eS m1) rfl rfl rfl rfl (fun _ => rfl) hz2)) ?_)
  rintro w2 S8 ⟨hw2, H8⟩
  replace H8 : Hp [] [] S8 (DC i j1 j5 v6 d5 []) [(w2, 1)] [(v6, o6)] := H8
  refine us 1 rfl ?_
  refine WO.go0 (b := false) rfl rfl (WO.step rfl (nz rfl (stp_len rfl (isSl_enc _ _) rfl)) ?_)
  have e5 : Sl.sub? z2 0 (Sl.len Y) = some (z2.map fun xs => (xs.take Y.l.length).drop 0) := by
    unfold Sl.sub?
    rw [Sl.len_nat, if_pos (by rw [hY, n4, lz2, lz1, List.length_append]; omega)]
    simp
  have l5 : (Sl.l (z2.map fun xs => (xs.take Y.l.length).drop 0)) = Y.l := by
    have g : (Sl.l (z2.map fun xs => (xs.take Y.l.length).drop 0)) = z2.l.take Y.l.length := by cases z2 <;> simp [Sl.l]
    rw [g, lz2, lz1, hY, n4, List.take_length_add_append]
    congr 1
    by_cases hj2 : j ≤ m1.l.length
    · rw [Nat.min_eq_left hj2]
    · rw [Nat.min_eq_right (by omega), List.take_length, List.take_of_length_le (by omega)]
  generalize (z2.map fun xs => (xs.take Y.l.length).drop 0) = z3 at e5 l5
  refine WO.go0 (b := false) rfl rfl (WO.ex1 rfl (nzx1 rfl (stp_subSl rfl hw2 rfl rfl rfl rfl (fun _ => rfl) e5)) ?_)
  intro w3 hw3
  refine WO.go0 (b := false) rfl rfl (WO.step (v := .bool true) rfl (nz (fz_tmp' (isSl_enc _ _).frz (fz_tmp' hw3.frz rfl)) (stp_call (vs := [encSl eS Y, w3]) rfl rfl (s14 5000 (F14_same 5000 Y z3 l5.symm (by rw [hY, n4]; omega) (by rw [hY, n4]; omega)) (by simp only [strip_enc, hw3.strip, List.map_cons, List.map_nil]) _))) ?_)
  refine us 2 rfl (WO.nil ?_)
  refine WC.condF rfl rfl (WC.skip (KX.seq_n ?_))
  refine WC.reset (l := [(3, .str z), (11, .ptr i 0), (13, encSl eS Y)]) (known_cons rfl (known_cons rfl (known_cons rfl known_nil))) fun σ12 => ?_
  -- one more
  have L3 := recs_len b3
  have b4 : ∀ b ∈ Sl.l (some [z]), b.length ≤ 100 := fun b hb => by
    rw [Sl.l_some] at hb
    obtain rfl := List.mem_singleton.1 hb; exact n3
  obtain ⟨d6, e6, D6⟩ := wal_is (n := LOG) (s := recs (l.l ++ m1.l.take j)) (s' := recs (l.l ++ m1.l.take j)) (p := recs [z]) D5 (.inr rfl) (.inr rfl) (by have := recs_len b4; rw [Sl.l_some] at this; simp at this; omega)
  have W6 := wal_dk (n := LOG) (p := recs [z]) (k := 1000) (l := some [z]) (lv := .lst [.str z] .full) (by rw [D5.pend] at hp6 ⊢; exact hp6) H8 (by rw [D5.pend]; simp) (by rw [D5.now]; simp) (by rw [D5.pend]; simp) ⟨.full, rfl⟩ rfl (F25_eq 1000 (some [z]) (by omega) b4 (by rw [Sl.l_some]; simp)) (by rw [D5.now, get_one]; have := recs_len b4; rw [Sl.l_some] at this; simp at this; simp; omega)
  rw [e6] at W6
  obtain ⟨S9, v9, o9, x9, h9, hp9, H9, _⟩ := W6
  refine WC.seqR (us 2 rfl ?_)
  refine WO.step rfl (nz rfl (stp_buildSlice (ys := [z]) (f := eS) (parts := [(0, (.str z))]) rfl rfl rfl rfl rfl rfl (fc ⟨rfl, rfl⟩ (fun p hp => nomatch hp)) rfl)) ?_
  refine WO.step (v := .int .i64 0) rfl (nz (fz_tmp' rfl (fo rfl (fz_tmp' rfl rfl))) (stp_call rfl rfl h9)) (us 1 rfl (WO.nil ?_))
  -- opened again
  rw [← recs_append] at D6
  have b5 : ∀ b ∈ (l.l ++ m1.l.take j) ++ [z], b.length ≤ 100 := fun b hb => by
    rcases List.mem_append.1 hb with h | h
    · exact b3 b h
    · obtain rfl := List.mem_singleton.1 h; exact n3
  have L5 := recs_len b5
  have n5 : ((l.l ++ m1.l.take j) ++ [z]).length = l.l.length + min j m1.l.length + 1 := by rw [List.length_append, n4]; rfl
  generalize hu : (l.l ++ m1.l.take j) ++ [z] = u at *
  obtain ⟨X, fX, hX⟩ := F8_eq 5000 (recs u) (by omega) (by omega)
  rw [scan_all u 5000 0 (by omega) b5] at fX hX
  dsimp only at fX hX
  rw [Nat.zero_add] at fX
  obtain ⟨d7, D7, hd7⟩ := open_is (m := (recs u).length) D6 (by omega) (by omega)
  obtain ⟨S10, v10, o10, x10, h10, hp10, H10, _⟩ := open_dk (n := LOG) (s := recs u) (k := 5000) (X := X) (d' := d7) (by rw [D6.pend] at hp9 ⊢; exact hp9) H9 (by rw [D6.pend]; simp) (by rw [D6.now]; simp) (by rw [D6.pend]; simp) (by rw [D6.left]; rfl) (by rw [D6.now]; exact get_one ..) fX (by omega) hd7
  refine WC.reset (l := [(3, .str z), (11, .ptr i 0), (13, encSl eS Y), (15, .int .i64 0)]) (known_cons rfl (known_cons rfl (known_cons rfl (known_cons rfl known_nil)))) fun σ13 => ?_
  refine WC.seqR (us 1 rfl ?_)
  refine WO.step rfl (nz rfl (stp_call rfl rfl h10)) (us 5 rfl (WO.nil ?_))
  refine WC.reset (l := [(3, .str z), (13, encSl eS Y), (15, .int .i64 0), (16, encSl eS X), (17, .int .i64 0)]) (known_cons rfl (known_cons rfl (known_cons rfl (known_cons rfl (known_cons rfl known_nil))))) fun σ14 => ?_
  refine WC.seqR (us 9 rfl ?_)
  obtain ⟨y1, hy1, ly1⟩ := Sl.app?_l (bytes := 16) (x := (none : Sl Str)) (ys := Y.l) (by show (0 + Y.l.length) * 16 ≤ 2 ^ 47; rw [hY, n4]; omega)
  rw [Sl.l_none, List.nil_append] at ly1
  have H10 := H10.addNil 1
  refine WO.go0 (b := true) rfl rfl (WO.ex rfl (nzx (fz_tmp' (isSl_enc _ _).frz rfl) (stp_app (f := eS) (ei := ty9) H10 0 rfl rfl (isSl_nil _) rfl (isSl_enc eS Y) rfl rfl rfl rfl (fun _ => rfl) hy1)) ?_)
  rintro u1 S11 ⟨hu1, H11⟩
  replace H11 : Hp [] [] S11 _ ((u1, 1) :: _) _ := H11
  refine us 1 rfl ?_
  refine WO.go0 (b := true) rfl rfl (WO.step rfl (nz rfl (stp_buildSlice (ys := [z]) (f := eS) (parts := [(0, (.str z))]) rfl rfl rfl rfl rfl rfl (fc ⟨rfl, rfl⟩ (fun p hp => nomatch hp)) rfl)) ?_)
  obtain ⟨y2, hy2, ly2⟩ := Sl.app?_l (bytes := 16) (x := y1) (ys := [z]) (by rw [ly1, hY, n4]; simp; omega)
  have hlz : IsSl eS (some [z]) (.lst [.str z] .full) := ⟨.full, rfl⟩
  refine WO.go0 (b := true) rfl rfl (WO.ex rfl (nzx (fz_tmp' rfl rfl) (stp_app (f := eS) (ei := ty9) H11 0 rfl rfl hu1 rfl hlz rfl rfl rfl rfl (fun _ => rfl) hy2)) ?_)
  rintro u2 S12 ⟨hu2, H12⟩
  have e9 : X.l = y2.l := by rw [hX, ly2, ly1, hY, hu]
  refine WO.go0 (b := true) rfl rfl (WO.step (v := .bool true) rfl (nz (fz_tmp' (isSl_enc _ _).frz (fz_tmp' hu2.frz rfl)) (stp_call (vs := [encSl eS X, u2]) rfl rfl (s14 5000 (F14_same 5000 X y2 e9 (by rw [hX, n5]; omega) (by rw [hX, n5]; omega)) (by simp only [strip_enc, hu2.strip, List.map_cons, List.map_nil]) _))) ?_)
  exact us 2 rfl (WO.nil (WC.ret (fin rfl)))
theorem walOpens_true (a0 a1 : Sl Str) (a2 : Int) (a3 : Str) (_ : ((Sl.l a0).length ≤ maxLen ∧ ∀ a ∈ Sl.l a0, a.length ≤ maxLen)) (_ : ((Sl.l a1).length ≤ maxLen ∧ ∀ a ∈ Sl.l a1, a.length ≤ maxLen)) (_ : (Lit.int .u64 a2).wf = true) (_ : a3.length ≤ maxLen) :
    evw env 5 [encSl eS a0, encSl eS a1, .int .u64 a2, .str a3] [] = some (.bool true, [], false) := opens_walk
end Go.Proofs.YtfpgfgpbjadoaaaDoor.M
