/- DiskKeeps: the walk, the law. -/
import Derived.Test.YtfpgfgpbjadoaaaDL5
namespace Go.Proofs.Ytfpgfgpbjadoaaa.M
set_option linter.unusedVariables false
set_option linter.unusedSimpArgs false
open Go Go.Pam
set_option maxRecDepth 4000
theorem k3a {l m1 : Sl Str} {kp : Int} {i j1 j2 : Nat} {z base : Str} {kept0 now0 : Mp Str} {k0 : Nat} {K : KX} (hret : ∀ σ' S' e', σ' 6 = .bool true → K .ret σ' S' e') (hn : (Sl.l l).length ≤ 20) (hbase : base.length ≤ 2000) (hk0 : k0 ≤ 100) (_ : One FF now0 base)
    (hex : ∀ σ' S' e' v o d now, Known ((8, .str (cat (Sl.l l))) :: [(0, encSl eS l), (1, encSl eS m1), (2, .int .u64 kp), (7, .ptr i 0), (9, .str z)]) σ' → DIs d 1000000 kept0 now ((Sl.l l).map opA) (k0 + (Sl.l l).length) → IsP d.pend v o → DH [] [] S' i j1 j2 v o d [] [] [] →
      One FF now (base ++ cat (Sl.l l)) → (Sl.l l ≠ [] → now = [(FF, base ++ cat (Sl.l l))]) → (Sl.l l = [] → now = now0) → (∀ b ∈ Sl.l l, b.length ≤ 100) → K (.exit 0) σ' S' e') :
    ∀ (j m : Nat) (σ : Nat → PV) (S : List SObj) (e : Bool) (v : PV) (o : SObj) (d : Dsk) (now : Mp Str), m + j = (Sl.l l).length → (∀ b ∈ (Sl.l l).take m, b.length ≤ 100) →
      Known ((10, .int .i64 (m : Int)) :: (8, .str (cat ((Sl.l l).take m))) :: [(0, encSl eS l), (1, encSl eS m1), (2, .int .u64 kp), (7, .ptr i 0), (9, .str z)]) σ → DIs d 1000000 kept0 now (((Sl.l l).take m).map opA) (k0 + m) → IsP d.pend v o → DH [] [] S i j1 j2 v o d [] [] [] →
      One FF now (base ++ cat ((Sl.l l).take m)) → (m ≠ 0 → now = [(FF, base ++ cat ((Sl.l l).take m))]) → (m = 0 → now = now0) → WC env ⟨141, 0⟩ (.loop pc3L0) σ S e K := by
  intro j
  induction j with
  | zero =>
    intro m σ S e v o d now hm hb hk D hp H ho1 ho2 ho3
    obtain rfl : m = (Sl.l l).length := by omega
    rw [List.take_length] at hb hk D ho1 ho2
    refine WC.reset hk fun σ0 => WC.loop ?_
    refine WC.seq (WC.seq (WC.region (us 2 rfl ?_)))
    refine WO.step rfl (nz rfl (stp_len rfl (isSl_enc _ _) rfl)) (us 1 rfl (WO.nil ?_))
    refine KX.seq_n (WC.condF (t := decide (((Sl.l l).length : Int) < Sl.len l)) rfl (by rw [Sl.len_nat]; simp) (WC.exit (KX.seq_x (KX.seq_x ?_))))
    exact hex _ _ _ v o d now (known_cons rfl (known_cons rfl (known_cons rfl (known_cons rfl (known_cons rfl (known_cons rfl known_nil)))))) D hp H ho1 (fun h => ho2 (fun h2 => h (List.eq_nil_of_length_eq_zero h2))) (fun h => ho3 (by rw [h]; rfl)) hb
  | succ j ih =>
    intro m σ S e v o d now hm hb hk D hp H ho1 ho2 ho3
    have hlt : m < (Sl.l l).length := by omega
    have e1 : Sl.at? l (m : Int) = some ((Sl.l l)[m]) := by rw [Sl.at?_nat, List.getElem?_eq_getElem hlt]
    have ht : (Sl.l l).take (m + 1) = (Sl.l l).take m ++ [(Sl.l l)[m]] := by rw [List.take_add_one, List.getElem?_eq_getElem hlt]; rfl
    generalize (Sl.l l)[m] = y at e1 ht
    have hcl := cat_len hb
    rw [List.length_take] at hcl
    refine WC.reset hk fun σ0 => WC.loop ?_
    refine WC.seq (WC.seq (WC.region (us 2 rfl ?_)))
    refine WO.step rfl (nz rfl (stp_len rfl (isSl_enc _ _) rfl)) (us 1 rfl (WO.nil ?_))
    refine KX.seq_n (WC.condT (t := decide ((m : Int) < Sl.len l)) rfl (by rw [Sl.len_nat]; simp; omega) (WC.skip ?_))
    refine KX.seq_n (WC.seq (WC.block (WC.seq (WC.seqR (us 2 rfl ?_)))))
    refine WO.step (v := .iptr [.str y] 0) rfl (nz rfl (stp_idxAddr rfl (isSl_enc _ _) rfl rfl rfl e1 rfl rfl)) (us 2 rfl ?_)
    refine WO.step (v := .bool (decide ((y.length : Int) > 100))) rfl (nz rfl rfl) ?_
    by_cases hy : y.length ≤ 100
    · rw [show decide ((y.length : Int) > 100) = false by simp; omega]
      refine us 4 rfl ?_
      refine WO.go0 (b := false) rfl rfl (WO.step (v := .iptr [.str y] 0) rfl (nz rfl (stp_idxAddr rfl (isSl_enc _ _) rfl rfl rfl e1 rfl rfl)) (us 1 rfl ?_))
      obtain ⟨d1, w1, D1⟩ := write_is (n := FF) (s := base ++ cat ((Sl.l l).take m)) (x := base ++ cat ((Sl.l l).take m) ++ y) (opA y) D ho1 (by rw [List.length_append, List.length_append]; omega) (by omega) (by rw [List.length_append]; omega) (by omega)
      have W1 := append_dk (n := FF) (b := y) (x := base ++ cat ((Sl.l l).take m) ++ y) hp H (by rw [D.pend, List.length_map, List.length_take]; omega) (by rw [D.now]; exact ho1.len) (by rw [D.now, ho1.get]; exact Str.app?_ok (by rw [List.length_append]; omega))
      rw [w1] at W1
      obtain ⟨S1, v1, o1, x1, h1, hp1, H1, _⟩ := W1
      refine WO.go0 (b := false) rfl rfl (WO.step (v := .int .i64 0) rfl (nz rfl (stp_call rfl rfl h1)) (us 2 rfl (WO.nil ?_)))
      refine WC.condF rfl rfl (WC.skip (KX.seq_n ?_))
      refine WC.reset (l := (10, .int .i64 (m : Int)) :: (8, .str (cat ((Sl.l l).take m))) :: [(0, encSl eS l), (1, encSl eS m1), (2, .int .u64 kp), (7, .ptr i 0), (9, .str z)]) (known_cons rfl (known_cons rfl (known_cons rfl (known_cons rfl (known_cons rfl (known_cons rfl (known_cons rfl known_nil))))))) fun σ1 => ?_
      refine WC.region (us 3 rfl ?_)
      refine WO.step (v := .iptr [.str y] 0) rfl (nz rfl (stp_idxAddr rfl (isSl_enc _ _) rfl rfl rfl e1 rfl rfl)) (us 1 rfl ?_)
      refine WO.step rfl (nz rfl (stp_strApp rfl rfl (Str.app?_ok (a := cat ((Sl.l l).take m)) (b := y) (by omega)))) (us 1 rfl (WO.nil ?_))
      refine KX.block_n (KX.seq_n (WC.region (us 3 rfl (WO.nil (KX.seq_n ?_)))))
      have e : ad .i64 (m : Int) 1 = ((m + 1 : Nat) : Int) := ad_nat (by omega)
      have ec : cat ((Sl.l l).take (m + 1)) = cat ((Sl.l l).take m) ++ y := by rw [ht, cat_append, cat, cat, List.append_nil]
      refine ih (m + 1) _ _ _ v1 o1 d1 [(FF, base ++ cat ((Sl.l l).take (m + 1)))] (by omega) ?_ (known_cons (Eq.trans rfl (congrArg (PV.int .i64) e)) (known_cons (Eq.trans rfl (congrArg PV.str ec.symm)) (known_cons rfl (known_cons rfl (known_cons rfl (known_cons rfl (known_cons rfl known_nil))))))) ?_ hp1 H1 (.inr rfl) (fun _ => rfl) (fun h => absurd h (by omega))
      · intro b hb'
        rw [ht] at hb'
        rcases List.mem_append.1 hb' with h1 | h1
        · exact hb b h1
        · obtain rfl := List.mem_singleton.1 h1; exact hy
      · rw [ec, ht, List.map_append, ← List.append_assoc]; exact D1
    · rw [show decide ((y.length : Int) > 100) = true by simp; omega]
      refine us 9 rfl (WO.nil ?_)
      refine WC.condT rfl rfl (WC.seqR (us 2 rfl ?_))
      refine WO.step (v := .iptr [.str y] 0) rfl (nz rfl (stp_idxAddr rfl (isSl_enc _ _) rfl rfl rfl e1 rfl rfl)) (us 2 rfl ?_)
      refine WO.step (v := .bool (decide ((y.length : Int) > 100))) rfl (nz rfl rfl) ?_
      rw [show decide ((y.length : Int) > 100) = true by simp; omega]
      refine us 1 rfl (WO.nil ?_)
      exact WC.ret (KX.seq_r (KX.block_r (KX.seq_r (KX.seq_r (hret _ _ _ rfl)))))
theorem k3b {l m1 : Sl Str} {kp : Int} {i j1 j2 : Nat} {z base : Str} {kept0 now0 : Mp Str} {k0 : Nat} {K : KX} (hret : ∀ σ' S' e', σ' 6 = .bool true → K .ret σ' S' e') (hn : (Sl.l m1).length ≤ 20) (hbase : base.length ≤ 2000) (hk0 : k0 ≤ 100) (_ : One FF now0 base)
    (hex : ∀ σ' S' e' v o d now, Known ((9, .str (cat (Sl.l m1))) :: [(0, encSl eS l), (1, encSl eS m1), (2, .int .u64 kp), (7, .ptr i 0), (8, .str z)]) σ' → DIs d 1000000 kept0 now ((Sl.l m1).map opA) (k0 + (Sl.l m1).length) → IsP d.pend v o → DH [] [] S' i j1 j2 v o d [] [] [] →
      One FF now (base ++ cat (Sl.l m1)) → (Sl.l m1 ≠ [] → now = [(FF, base ++ cat (Sl.l m1))]) → (Sl.l m1 = [] → now = now0) → (∀ b ∈ Sl.l m1, b.length ≤ 100) → K (.exit 2) σ' S' e') :
    ∀ (j m : Nat) (σ : Nat → PV) (S : List SObj) (e : Bool) (v : PV) (o : SObj) (d : Dsk) (now : Mp Str), m + j = (Sl.l m1).length → (∀ b ∈ (Sl.l m1).take m, b.length ≤ 100) →
      Known ((11, .int .i64 (m : Int)) :: (9, .str (cat ((Sl.l m1).take m))) :: [(0, encSl eS l), (1, encSl eS m1), (2, .int .u64 kp), (7, .ptr i 0), (8, .str z)]) σ → DIs d 1000000 kept0 now (((Sl.l m1).take m).map opA) (k0 + m) → IsP d.pend v o → DH [] [] S i j1 j2 v o d [] [] [] →
      One FF now (base ++ cat ((Sl.l m1).take m)) → (m ≠ 0 → now = [(FF, base ++ cat ((Sl.l m1).take m))]) → (m = 0 → now = now0) → WC env ⟨141, 0⟩ (.loop pc3L2) σ S e K := by
  intro j
  induction j with
  | zero =>
    intro m σ S e v o d now hm hb hk D hp H ho1 ho2 ho3
    obtain rfl : m = (Sl.l m1).length := by omega
    rw [List.take_length] at hb hk D ho1 ho2
    refine WC.reset hk fun σ0 => WC.loop ?_
    refine WC.seq (WC.seq (WC.region (us 2 rfl ?_)))
    refine WO.step rfl (nz rfl (stp_len rfl (isSl_enc _ _) rfl)) (us 1 rfl (WO.nil ?_))
    refine KX.seq_n (WC.condF (t := decide (((Sl.l m1).length : Int) < Sl.len m1)) rfl (by rw [Sl.len_nat]; simp) (WC.exit (KX.seq_x (KX.seq_x ?_))))
    exact hex _ _ _ v o d now (known_cons rfl (known_cons rfl (known_cons rfl (known_cons rfl (known_cons rfl (known_cons rfl known_nil)))))) D hp H ho1 (fun h => ho2 (fun h2 => h (List.eq_nil_of_length_eq_zero h2))) (fun h => ho3 (by rw [h]; rfl)) hb
  | succ j ih =>
    intro m σ S e v o d now hm hb hk D hp H ho1 ho2 ho3
    have hlt : m < (Sl.l m1).length := by omega
    have e1 : Sl.at? m1 (m : Int) = some ((Sl.l m1)[m]) := by rw [Sl.at?_nat, List.getElem?_eq_getElem hlt]
    have ht : (Sl.l m1).take (m + 1) = (Sl.l m1).take m ++ [(Sl.l m1)[m]] := by rw [List.take_add_one, List.getElem?_eq_getElem hlt]; rfl
    generalize (Sl.l m1)[m] = y at e1 ht
    have hcl := cat_len hb
    rw [List.length_take] at hcl
    refine WC.reset hk fun σ0 => WC.loop ?_
    refine WC.seq (WC.seq (WC.region (us 2 rfl ?_)))
    refine WO.step rfl (nz rfl (stp_len rfl (isSl_enc _ _) rfl)) (us 1 rfl (WO.nil ?_))
    refine KX.seq_n (WC.condT (t := decide ((m : Int) < Sl.len m1)) rfl (by rw [Sl.len_nat]; simp; omega) (WC.skip ?_))
    refine KX.seq_n (WC.seq (WC.block (WC.seq (WC.seqR (us 2 rfl ?_)))))
    refine WO.step (v := .iptr [.str y] 0) rfl (nz rfl (stp_idxAddr rfl (isSl_enc _ _) rfl rfl rfl e1 rfl rfl)) (us 2 rfl ?_)
    refine WO.step (v := .bool (decide ((y.length : Int) > 100))) rfl (nz rfl rfl) ?_
    by_cases hy : y.length ≤ 100
    · rw [show decide ((y.length : Int) > 100) = false by simp; omega]
      refine us 4 rfl ?_
      refine WO.go0 (b := false) rfl rfl (WO.step (v := .iptr [.str y] 0) rfl (nz rfl (stp_idxAddr rfl (isSl_enc _ _) rfl rfl rfl e1 rfl rfl)) (us 1 rfl ?_))
      obtain ⟨d1, w1, D1⟩ := write_is (n := FF) (s := base ++ cat ((Sl.l m1).take m)) (x := base ++ cat ((Sl.l m1).take m) ++ y) (opA y) D ho1 (by rw [List.length_append, List.length_append]; omega) (by omega) (by rw [List.length_append]; omega) (by omega)
      have W1 := append_dk (n := FF) (b := y) (x := base ++ cat ((Sl.l m1).take m) ++ y) hp H (by rw [D.pend, List.length_map, List.length_take]; omega) (by rw [D.now]; exact ho1.len) (by rw [D.now, ho1.get]; exact Str.app?_ok (by rw [List.length_append]; omega))
      rw [w1] at W1
      obtain ⟨S1, v1, o1, x1, h1, hp1, H1, _⟩ := W1
      refine WO.go0 (b := false) rfl rfl (WO.step (v := .int .i64 0) rfl (nz rfl (stp_call rfl rfl h1)) (us 2 rfl (WO.nil ?_)))
      refine WC.condF rfl rfl (WC.skip (KX.seq_n ?_))
      refine WC.reset (l := (11, .int .i64 (m : Int)) :: (9, .str (cat ((Sl.l m1).take m))) :: [(0, encSl eS l), (1, encSl eS m1), (2, .int .u64 kp), (7, .ptr i 0), (8, .str z)]) (known_cons rfl (known_cons rfl (known_cons rfl (known_cons rfl (known_cons rfl (known_cons rfl (known_cons rfl known_nil))))))) fun σ1 => ?_
      refine WC.region (us 3 rfl ?_)
      refine WO.step (v := .iptr [.str y] 0) rfl (nz rfl (stp_idxAddr rfl (isSl_enc _ _) rfl rfl rfl e1 rfl rfl)) (us 1 rfl ?_)
      refine WO.step rfl (nz rfl (stp_strApp rfl rfl (Str.app?_ok (a := cat ((Sl.l m1).take m)) (b := y) (by omega)))) (us 1 rfl (WO.nil ?_))
      refine KX.block_n (KX.seq_n (WC.region (us 3 rfl (WO.nil (KX.seq_n ?_)))))
      have e : ad .i64 (m : Int) 1 = ((m + 1 : Nat) : Int) := ad_nat (by omega)
      have ec : cat ((Sl.l m1).take (m + 1)) = cat ((Sl.l m1).take m) ++ y := by rw [ht, cat_append, cat, cat, List.append_nil]
      refine ih (m + 1) _ _ _ v1 o1 d1 [(FF, base ++ cat ((Sl.l m1).take (m + 1)))] (by omega) ?_ (known_cons (Eq.trans rfl (congrArg (PV.int .i64) e)) (known_cons (Eq.trans rfl (congrArg PV.str ec.symm)) (known_cons rfl (known_cons rfl (known_cons rfl (known_cons rfl (known_cons rfl known_nil))))))) ?_ hp1 H1 (.inr rfl) (fun _ => rfl) (fun h => absurd h (by omega))
      · intro b hb'
        rw [ht] at hb'
        rcases List.mem_append.1 hb' with h1 | h1
        · exact hb b h1
        · obtain rfl := List.mem_singleton.1 h1; exact hy
      · rw [ec, ht, List.map_append, ← List.append_assoc]; exact D1
    · rw [show decide ((y.length : Int) > 100) = true by simp; omega]
      refine us 9 rfl (WO.nil ?_)
      refine WC.condT rfl rfl (WC.seqR (us 2 rfl ?_))
      refine WO.step (v := .iptr [.str y] 0) rfl (nz rfl (stp_idxAddr rfl (isSl_enc _ _) rfl rfl rfl e1 rfl rfl)) (us 2 rfl ?_)
      refine WO.step (v := .bool (decide ((y.length : Int) > 100))) rfl (nz rfl rfl) ?_
      rw [show decide ((y.length : Int) > 100) = true by simp; omega]
      refine us 1 rfl (WO.nil ?_)
      exact WC.ret (KX.seq_r (KX.block_r (KX.seq_r (KX.seq_r (hret _ _ _ rfl)))))
theorem keeps_walk {l m1 : Sl Str} {kp : Int} : evw env 3 [encSl eS l, encSl eS m1, .int .u64 kp] [] = some (.bool true, [], false) := by
  refine evw_pureW (bs := [encSl eS l, encSl eS m1, .int .u64 kp]) (pf := fn3) rfl rfl (by simp only [List.map_cons, List.map_nil, st_int, strip_enc]) (Nat.le_of_ble_eq_true rfl) (by simp [PV.clean, cleanL, clean_encSl clean_eS]) rfl ?_
  refine WB.of (pf := fn3) rfl ?_
  refine WC.seqR (us 1 rfl (WO.nil ?_))
  refine WC.seq (WC.seqR ?_)
  refine WO.step (v := .bool true) rfl (nz rfl (stp_call (vs := []) rfl rfl (s7 0 (r := true) rfl rfl _))) (us 1 rfl (WO.nil ?_))
  refine WC.condF rfl rfl (WC.skip (KX.seq_n ?_))
  refine WC.reset (l := [(0, encSl eS l), (1, encSl eS m1), (2, .int .u64 kp)]) (known_cons rfl (known_cons rfl (known_cons rfl known_nil))) fun σ1 => ?_
  have fin : ∀ {σ' : Nat → PV} {S : List SObj} {e : Bool}, σ' 6 = .bool true → KB env ⟨141, [.tmp 6], pc3, false⟩ (fun v' _ _ => v'.strip = .bool true) .ret σ' S e := fun {σ' S e} h => kr (.bool true) h rfl rfl
  -- the lengths
  refine WC.seq (WC.seqR (us 1 rfl ?_))
  refine WO.step rfl (nz rfl (stp_len rfl (isSl_enc _ _) rfl)) ?_
  refine WO.step (v := .bool (decide (Sl.len l > 20))) rfl (nz rfl rfl) (us 1 rfl ?_)
  by_cases n1 : l.l.length ≤ 20
  case neg =>
    rw [show decide (Sl.len l > 20) = true by rw [Sl.len_nat]; simp; omega]
    refine us 4 rfl (WO.nil ?_)
    exact WC.condT rfl rfl (WC.seqR (us 1 rfl (WO.nil (WC.ret (KX.seq_r (fin rfl))))))
  rw [show decide (Sl.len l > 20) = false by rw [Sl.len_nat]; simp; omega]
  refine us 1 rfl ?_
  refine WO.go0 (b := false) rfl rfl (WO.step rfl (nz rfl (stp_len rfl (isSl_enc _ _) rfl)) ?_)
  refine WO.go0 (b := false) rfl rfl (WO.step (v := .bool (decide (Sl.len m1 > 20))) rfl (nz rfl rfl) (us 1 rfl (WO.nil ?_)))
  by_cases n2 : m1.l.length ≤ 20
  case neg =>
    rw [show decide (Sl.len m1 > 20) = true by rw [Sl.len_nat]; simp; omega]
    exact WC.condT rfl rfl (WC.seqR (us 1 rfl (WO.nil (WC.ret (KX.seq_r (fin rfl))))))
  rw [show decide (Sl.len m1 > 20) = false by rw [Sl.len_nat]; simp; omega]
  refine WC.condF rfl rfl (WC.skip (KX.seq_n ?_))
  -- the disk
  have H := Hp.start []
  obtain ⟨S1, i, j1, j2, h1, hp, H⟩ := new_dk 1000000 H
  have D : DIs ⟨imin (imax 1000000 0) 1000000, [], [], [], 0, -1⟩ 1000000 [] [] [] 0 := ⟨by decide, rfl, rfl, rfl, rfl, rfl⟩
  refine WC.seqR ?_
  refine WO.step rfl (nz rfl (stp_call rfl rfl h1)) (us 1 rfl (WO.nil ?_))
  have hp : IsP (⟨imin (imax 1000000 0) 1000000, [], [], [], 0, -1⟩ : Dsk).pend .nils .dead := hp
  generalize (⟨imin (imax 1000000 0) 1000000, [], [], [], 0, -1⟩ : Dsk) = d0 at *
  refine WC.seqR (us 2 rfl (WO.nil ?_))
  refine WC.seq (WC.seqR (us 1 rfl (WO.nil (WC.block ?_))))
  refine k3a (k0 := 0) (base := []) (now0 := []) (kept0 := []) (z := []) (fun σ' S' e' h => KX.block_r (KX.seq_r (fin h))) n1 (by simp) (by omega) (.inl ⟨rfl, rfl⟩) ?_ l.l.length 0 _ S1 _ _ _ d0 [] (by omega) (by simp)
    (known_cons rfl (known_cons rfl (known_cons rfl (known_cons rfl (known_cons rfl (known_cons rfl (known_cons rfl known_nil))))))) D hp H (.inl ⟨rfl, rfl⟩) (fun h => absurd rfl h) (fun _ => rfl)
  intro σ2 S2 e2 v2 o2 d2 now2 hk2 D2 hp2 H2 ho1 ho2 ho3 b1
  rw [List.nil_append] at ho1 ho2
  rw [Nat.zero_add] at D2
  refine KX.block_x (KX.seq_n (WC.reset hk2 fun σ3 => ?_))
  have hcl := cat_len b1
  -- what is kept
  refine WC.seqJ (fun σ' S' _ => Known [(0, encSl eS l), (1, encSl eS m1), (2, .int .u64 kp), (7, .ptr i 0), (8, .str (cat l.l)), (9, .str [])] σ' ∧
    ∃ v o d k kept, DIs d 1000000 kept kept [] k ∧ k ≤ 100 ∧ IsP d.pend v o ∧ DH [] [] S' i j1 j2 v o d [] [] [] ∧ One FF kept (cat l.l) ∧ (l.l ≠ [] → kept = [(FF, cat l.l)]) ∧ (l.l = [] → kept = [])) ?_ ?_
  · refine WC.seqR (us 1 rfl ?_)
    refine WO.step rfl (nz rfl (stp_len rfl (isSl_enc _ _) rfl)) ?_
    refine WO.step (v := .bool (decide (Sl.len l > 0))) rfl (nz rfl rfl) ?_
    by_cases hl : l.l = []
    · rw [show decide (Sl.len l > 0) = false by rw [Sl.len_nat, hl]; rfl]
      refine us 5 rfl (WO.nil ?_)
      refine WC.condF rfl rfl (WC.skip (KX.seq_n ⟨known_cons rfl (known_cons rfl (known_cons rfl (known_cons rfl (known_cons rfl (known_cons rfl known_nil))))), v2, o2, d2, l.l.length, [], ?_, by omega, hp2, H2, ?_, fun h => absurd hl h, fun _ => rfl⟩))
      · have := ho3 hl
        rw [this, hl] at D2
        rw [hl]; exact D2
      · rw [hl]; exact .inl ⟨rfl, rfl⟩
    · have hpos : 0 < l.l.length := List.length_pos_iff.2 hl
      rw [show decide (Sl.len l > 0) = true by rw [Sl.len_nat]; simp; omega]
      have hnow := ho2 hl
      subst hnow
      obtain ⟨d3, w3, D3⟩ := sync_is (s' := []) D2 (.inl ⟨rfl, rfl⟩) (by omega)
      have W3 := sync_dk (n := FF) hp2 H2 (by rw [D2.pend, List.length_map]; omega) (by rw [D2.pend]; intro y hy; obtain ⟨b, _, rfl⟩ := List.mem_map.1 hy; rfl)
      rw [w3] at W3
      obtain ⟨S3, v3, o3, x3, h3, hp3, H3, _⟩ := W3
      refine us 2 rfl ?_
      refine WO.go0 (b := true) rfl rfl (WO.step (v := .int .i64 0) rfl (nz rfl (stp_call rfl rfl h3)) (us 2 rfl (WO.nil ?_)))
      exact WC.condF rfl rfl (WC.skip (KX.seq_n ⟨known_cons rfl (known_cons rfl (known_cons rfl (known_cons rfl (known_cons rfl (known_cons rfl known_nil))))), v3, o3, d3, _, _, D3, by omega, hp3, H3, .inr rfl, fun _ => rfl, fun h => absurd h hl⟩))
  rintro σ4 S4 e4 ⟨hk4, v4, o4, d4, k4, kept, D4, hk100, hp4, H4, q1, q2, q3⟩
  refine WC.reset hk4 fun σ5 => ?_
  -- what isn't synced
  refine WC.seq (WC.seqR (us 1 rfl (WO.nil (WC.block ?_))))
  refine k3b (k0 := k4) (base := cat l.l) (now0 := kept) (kept0 := kept) (z := cat l.l) (fun σ' S' e' h => KX.block_r (KX.seq_r (fin h))) n2 (by omega) hk100 q1 ?_ m1.l.length 0 _ S4 _ _ _ d4 kept (by omega) (by simp)
    (known_cons rfl (known_cons rfl (known_cons rfl (known_cons rfl (known_cons rfl (known_cons rfl (known_cons rfl known_nil))))))) D4 hp4 H4 (by rw [List.take_zero, cat, List.append_nil]; exact q1) (fun h => absurd rfl h) (fun _ => rfl)
  intro σ6 S6 e6 v6 o6 d6 now6 hk6 D6 hp6 H6 _ _ _ b2
  refine KX.block_x (KX.seq_n (WC.reset hk6 fun σ7 => ?_))
  have hcl2 := cat_len b2
  -- the power lost
  obtain ⟨c, c1, c3⟩ := crash_pre (keep := kp) m1.l 0 kept [] (cat l.l) q1 rfl
  have hsum : ((m1.l.map opA).map (·.b.length)).sum = (cat m1.l).length := by
    have : ∀ x : List Str, ((x.map opA).map (·.b.length)).sum = (cat x).length := fun x => by
      induction x with
      | nil => rfl
      | cons b x ih => simp only [List.map_cons, List.sum_cons, cat, List.length_append]; rw [ih]
    exact this _
  have hkl : ∀ q, ((Mp.get? kept q).getD []).length ≤ 2000 := fun q => by
    rcases q1 with ⟨h, _⟩ | h
    · rw [h]; simp [Mp.get?]
    · rw [h]; simp only [Mp.get?]; split <;> simp <;> omega
  have D8 := crash_room (keep := kp) D6 rfl
  obtain ⟨S8, j8, h8, hp8, H8⟩ := crash_dk (keep := kp) hp6 H6 (by rw [D6.pend, List.length_map]; omega) (by rw [D6.kept, D6.pend, hsum]; intro q; have := hkl q; omega)
  generalize d6.crash kp = d8 at *
  generalize crashL kp (m1.l.map opA) 0 kept [] = r at *
  refine WC.seqR (us 2 rfl ?_)
  refine WO.step rfl (nz rfl (stp_call rfl rfl h8)) (WO.nil ?_)
  have h9 := read_dk (n := FF) H8
  refine WC.seqR (us 1 rfl ?_)
  rcases c1 with ⟨rfl, c2⟩ | rfl
  · -- there is no such file
    have hr : d8.read FF = ([], 23) := by unfold Dsk.read; rw [D8.left, if_neg (by decide), D8.now]; rfl
    rw [hr] at h9
    refine WO.step (v := .tup [.str [], .int .i64 23]) rfl (nz rfl (stp_call rfl rfl h9)) (us 5 rfl (WO.nil ?_))
    refine WC.seq (WC.seqR (us 2 rfl (WO.nil ?_)))
    refine WC.condT rfl rfl (WC.seqR (us 4 rfl ?_))
    have hl : l.l = [] := by
      by_cases hl : l.l = []
      · exact hl
      · exact absurd (c3 (q2 hl)) (by simp)
    refine WO.go0 (b := true) rfl rfl (WO.step rfl (nz rfl (stp_len rfl (isSl_enc _ _) rfl)) ?_)
    refine WO.go0 (b := true) rfl rfl (WO.step (v := .bool (Sl.len l == 0)) rfl (nz rfl rfl) ?_)
    rw [show (Sl.len l == 0) = true by rw [Sl.len_nat, hl]; rfl]
    exact us 2 rfl (WO.nil (WC.ret (KX.seq_r (fin rfl))))
  · have hr : d8.read FF = (cat l.l ++ (cat m1.l).take c, 0) := by unfold Dsk.read; rw [D8.left, if_neg (by decide), D8.now, get_one]
    rw [hr] at h9
    refine WO.step (v := .tup [.str (cat l.l ++ (cat m1.l).take c), .int .i64 0]) rfl (nz rfl (stp_call rfl rfl h9)) (us 5 rfl (WO.nil ?_))
    refine WC.reset (l := [(8, .str (cat l.l)), (9, .str (cat m1.l)), (12, .str (cat l.l ++ (cat m1.l).take c)), (13, .int .i64 0)]) (known_cons rfl (known_cons rfl (known_cons rfl (known_cons rfl known_nil)))) fun σ9 => ?_
    refine WC.seq (WC.seqR (us 2 rfl (WO.nil ?_)))
    refine WC.condF rfl rfl (WC.skip (KX.seq_n ?_))
    have hlen : (cat l.l ++ (cat m1.l).take c).length ≤ (cat l.l).length + (cat m1.l).length := by rw [List.length_append, List.length_take]; omega
    have hpre : (cat l.l ++ cat m1.l).take (cat l.l ++ (cat m1.l).take c).length = cat l.l ++ (cat m1.l).take c := by
      rw [List.length_append, List.length_take, List.take_length_add_append]
      congr 1
      by_cases hc : c ≤ (cat m1.l).length
      · rw [Nat.min_eq_left hc]
      · rw [Nat.min_eq_right (by omega), List.take_length, List.take_of_length_le (by omega)]
    have hge : (cat l.l).length ≤ (cat l.l ++ (cat m1.l).take c).length := by rw [List.length_append]; omega
    generalize cat l.l ++ (cat m1.l).take c = s at *
    refine WC.seqR (us 4 rfl ?_)
    refine WO.step (v := .bool (decide ((s.length : Int) ≥ ((cat l.l).length : Int)))) rfl (nz rfl rfl) ?_
    rw [show decide ((s.length : Int) ≥ ((cat l.l).length : Int)) = true by simp; omega]
    refine us 7 rfl ?_
    refine WO.go0 (b := true) rfl rfl (WO.step (v := .int .i64 (ad .i64 ((cat l.l).length : Int) ((cat m1.l).length : Int))) rfl (nz rfl rfl) ?_)
    refine WO.go0 (b := true) rfl rfl (WO.step (v := .bool (decide ((s.length : Int) ≤ ad .i64 ((cat l.l).length : Int) ((cat m1.l).length : Int)))) rfl (nz rfl rfl) ?_)
    rw [show decide ((s.length : Int) ≤ ad .i64 ((cat l.l).length : Int) ((cat m1.l).length : Int)) = true by rw [ad64 (by omega)]; simp; omega]
    refine us 5 rfl ?_
    refine WO.go0 (b := true) rfl rfl (WO.step rfl (nz rfl (stp_strApp rfl rfl (Str.app?_ok (a := cat l.l) (b := cat m1.l) (by omega)))) (us 2 rfl ?_))
    have e2 : Str.sub? (cat l.l ++ cat m1.l) 0 (s.length : Int) = some s := by
      have := Str.sub?_nat (s := cat l.l ++ cat m1.l) (l := 0) (h := s.length) (by omega) (by rw [List.length_append]; omega)
      rw [hpre] at this
      simpa using this
    refine WO.go0 (b := true) rfl rfl (WO.step rfl (nz rfl (stp_subStr rfl rfl rfl rfl e2)) ?_)
    refine WO.go0 (b := true) rfl rfl (WO.step (v := .bool (s == s)) rfl (nz rfl rfl) ?_)
    rw [show (s == s) = true by simp]
    exact us 2 rfl (WO.nil (WC.ret (fin rfl)))
theorem diskKeeps_true (a0 a1 : Sl Str) (a2 : Int) (_ : ((Sl.l a0).length ≤ maxLen ∧ ∀ a ∈ Sl.l a0, a.length ≤ maxLen)) (_ : ((Sl.l a1).length ≤ maxLen ∧ ∀ a ∈ Sl.l a1, a.length ≤ maxLen)) (_ : (Lit.int .u64 a2).wf = true) :
    evw env 3 [encSl eS a0, encSl eS a1, .int .u64 a2] [] = some (.bool true, [], false) := keeps_walk
end Go.Proofs.Ytfpgfgpbjadoaaa.M
