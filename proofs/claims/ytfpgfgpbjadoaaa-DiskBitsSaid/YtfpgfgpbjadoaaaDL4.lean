/- DiskBits: the walk, the law. -/
import Derived.Test.YtfpgfgpbjadoaaaDL3
namespace Go.Proofs.Ytfpgfgpbjadoaaa.M
set_option linter.unusedVariables false
set_option linter.unusedSimpArgs false
open Go Go.Pam
set_option maxRecDepth 4000
/-- What stays of so many appends of one length: those whose bit is set, and half of the next one. -/
theorem crash_bits {keep : Int} {mm : Nat} (hm : 2 ≤ mm) : ∀ (L : List Str) (i f : Nat) (kept : Mp Str) (st : Mp Bool) (s : Str), (∀ b ∈ L, b.length = mm) → One FF kept s → (Mp.get? st FF).getD false = false →
    (∀ x, x < f → bitK keep (i + x) = true) → (f < L.length → bitK keep (i + f) = false) → f ≤ L.length → (L ≠ [] ∨ kept = [(FF, s)]) →
    crashL keep (L.map opA) i kept st = [(FF, s ++ (cat L).take (if f = L.length then (cat L).length else f * mm + mm / 2))]
  | [], i, f, kept, st, s, _, _, _, _, _, _, hne => by
    rcases hne with h | h
    · exact absurd rfl h
    · rw [cat, List.take_nil, List.append_nil]; exact h
  | b :: L, i, f, kept, st, s, hl, h, hst, h1, h2, h3, _ => by
    have hb := hl b (List.mem_cons_self ..)
    have e : crashL keep ((b :: L).map opA) i kept st = crashL keep (L.map opA) (i + 1) (crash1 keep i (opA b) kept ((Mp.get? st FF).getD false)) (Mp.put st FF (((Mp.get? st FF).getD false) || !bitK keep i)) := rfl
    rw [e, hst, Bool.false_or]
    rcases Nat.eq_zero_or_pos f with rfl | hf
    · have hbit : bitK keep i = false := by have := h2 (by simp); rwa [Nat.add_zero] at this
      rw [hbit, crash_stuck L _ _ _ (by rw [Mp.get?_put]; simp)]
      have e2 : (cat (b :: L)).take (if 0 = (b :: L).length then (cat (b :: L)).length else 0 * mm + mm / 2) = b.take (b.length / 2) := by
        rw [if_neg (by simp), hb, Nat.zero_mul, Nat.zero_add, cat, List.take_append_of_le_length (by omega)]
      rw [e2]
      unfold crash1
      rw [if_neg (by decide), hbit, if_neg (by show ¬ (false && false) = true; decide), if_neg (by decide), h.get]
      have hne : b.take (b.length / 2) ≠ [] := by
        intro h0
        have := congrArg List.length h0
        rw [List.length_take, List.length_nil] at this
        omega
      show (if (!false && (b.take (b.length / 2) != [])) = true then Mp.put kept FF (s ++ b.take (b.length / 2)) else kept) = _
      rw [if_pos (by simpa using hne), h.put]
    · have hbit : bitK keep i = true := by have := h1 0 hf; rwa [Nat.add_zero] at this
      have e1 : crash1 keep i (opA b) kept false = [(FF, s ++ b)] := by
        unfold crash1
        rw [if_neg (by decide), hbit, if_neg (by show ¬ (true && false) = true; decide), if_pos rfl, h.get, h.put]
      rw [e1, hbit]
      rw [crash_bits hm L (i + 1) (f - 1) [(FF, s ++ b)] (Mp.put st FF (!true)) (s ++ b) (fun c hc => hl c (List.mem_cons_of_mem _ hc)) (.inr rfl) (by rw [Mp.get?_put]; simp)
        (fun x hx => by have := h1 (x + 1) (by omega); rwa [show i + (x + 1) = i + 1 + x by omega] at this) (fun hx => by have := h2 (by simp; omega); rwa [show i + f = i + 1 + (f - 1) by omega] at this) (by simp at h3; omega) (.inr rfl)]
      rw [cat, List.append_assoc]
      congr 3
      by_cases hfl : f = L.length + 1
      · rw [if_pos (by omega), if_pos (by simp; omega), List.take_length, List.take_length]
      · rw [if_neg (by omega), if_neg (by simp; omega)]
        have : f * mm + mm / 2 = b.length + ((f - 1) * mm + mm / 2) := by
          obtain ⟨g, rfl⟩ : ∃ g, f = g + 1 := ⟨f - 1, by omega⟩
          rw [hb, Nat.add_sub_cancel, Nat.add_mul]; omega
        rw [this, List.take_length_add_append]
/-- One piece. -/
theorem k4b {keep : Int} {i kk mm ix : Nat} {al : Str} {K : KX} {S : List SObj} (hmm : mm ≤ 30) (hix : ix ≤ 50)
    (hex : ∀ σ' e' w, Known [(1, .int .u64 keep), (7, .int .i64 (kk : Int)), (8, .int .i64 (mm : Int)), (9, .ptr i 0), (10, .str al), (11, .int .i64 (ix : Int)), (12, .str w)] σ' → w.length = mm → K (.exit 2) σ' S e') :
    ∀ (j m : Nat) (σ : Nat → PV) (e : Bool) (w : Str), m + j = mm → w.length = m →
      Known [(1, .int .u64 keep), (7, .int .i64 (kk : Int)), (8, .int .i64 (mm : Int)), (9, .ptr i 0), (10, .str al), (11, .int .i64 (ix : Int)), (12, .str w), (13, .int .i64 (m : Int))] σ → WC env ⟨96, 0⟩ (.loop pc4L2) σ S e K := by
  intro j
  induction j with
  | zero =>
    intro m σ e w hm hw hk
    refine WC.reset hk fun σ0 => WC.loop ?_
    refine WC.seq (WC.seq (WC.region (us 3 rfl (WO.nil ?_))))
    refine KX.seq_n (WC.condF (t := decide ((m : Int) < (mm : Int))) rfl (by simp; omega) (WC.exit (KX.seq_x (KX.seq_x ?_))))
    exact hex _ _ w (known_cons rfl (known_cons rfl (known_cons rfl (known_cons rfl (known_cons rfl (known_cons rfl (known_cons rfl known_nil))))))) (by omega)
  | succ j ih =>
    intro m σ e w hm hw hk
    refine WC.reset hk fun σ0 => WC.loop ?_
    refine WC.seq (WC.seq (WC.region (us 3 rfl (WO.nil ?_))))
    refine KX.seq_n (WC.condT (t := decide ((m : Int) < (mm : Int))) rfl (by simp; omega) (WC.skip ?_))
    refine KX.seq_n (WC.seq (WC.block (WC.region (us 4 rfl ?_))))
    have ea : ad .i64 (ix : Int) (m : Int) = ((ix + m : Nat) : Int) := by rw [ad64 (by omega)]; omega
    obtain ⟨r, hr, er⟩ := rem?_nat (a := ad .i64 (ix : Int) (m : Int)) (by rw [ea]; omega) (n := 26) (by omega)
    refine WO.step rfl (nz rfl (stp_rem rfl rfl er)) (us 2 rfl ?_)
    refine WO.step rfl (nz rfl (stp_buildSlice (ys := [ad .u8 97 (cv .u8 (r : Int))]) (f := (eI .u8)) (parts := [(0, (.int .u8 (ad .u8 97 (cv .u8 (r : Int)))))]) rfl rfl rfl rfl rfl rfl (fc ⟨rfl, rfl⟩ (fun p hp => nomatch hp)) rfl)) ?_
    have hv : IsSl (eI .u8) (some [ad .u8 97 (cv .u8 (r : Int))]) (.lst [.int .u8 (ad .u8 97 (cv .u8 (r : Int)))] .full) := ⟨.full, rfl⟩
    refine WO.step rfl (nz (fz_tmp' rfl rfl) (stp_text rfl hv rfl rfl rfl)) ?_
    have hl1 : (Str.of (some [ad .u8 97 (cv .u8 (r : Int))])).length = 1 := rfl
    generalize Str.of (some [ad .u8 97 (cv .u8 (r : Int))]) = q at hl1
    refine WO.step rfl (nz rfl (stp_strApp rfl rfl (Str.app?_ok (a := w) (b := q) (by omega)))) (us 1 rfl (WO.nil ?_))
    refine KX.block_n (KX.seq_n (WC.region (us 3 rfl (WO.nil (KX.seq_n ?_)))))
    have e2 : ad .i64 (m : Int) 1 = ((m + 1 : Nat) : Int) := ad_nat (by omega)
    exact ih (m + 1) _ _ (w ++ q) (by omega) (by rw [List.length_append]; omega) (known_cons rfl (known_cons rfl (known_cons rfl (known_cons rfl (known_cons rfl (known_cons rfl (known_cons rfl (known_cons (Eq.trans rfl (congrArg (PV.int .i64) e2)) known_nil))))))))
theorem k4a {keep : Int} {i j1 j2 kk mm : Nat} {K : KX} (hmm : 2 ≤ mm ∧ mm ≤ 30) (hkk : kk ≤ 40)
    (hex : ∀ σ' S' e' v o d now L, Known [(1, .int .u64 keep), (7, .int .i64 (kk : Int)), (8, .int .i64 (mm : Int)), (9, .ptr i 0), (10, .str (cat L))] σ' → L.length = kk → (∀ b ∈ L, b.length = mm) → DIs d 1000000 [] now (L.map opA) kk → IsP d.pend v o → DH [] [] S' i j1 j2 v o d [] [] [] → K (.exit 0) σ' S' e') :
    ∀ (j m : Nat) (σ : Nat → PV) (S : List SObj) (e : Bool) (v : PV) (o : SObj) (d : Dsk) (now : Mp Str) (L : List Str), m + j = kk → L.length = m → (∀ b ∈ L, b.length = mm) →
      Known [(1, .int .u64 keep), (7, .int .i64 (kk : Int)), (8, .int .i64 (mm : Int)), (9, .ptr i 0), (10, .str (cat L)), (11, .int .i64 (m : Int))] σ → DIs d 1000000 [] now (L.map opA) m → One FF now (cat L) → IsP d.pend v o → DH [] [] S i j1 j2 v o d [] [] [] → WC env ⟨96, 0⟩ (.loop pc4L0) σ S e K := by
  intro j
  induction j with
  | zero =>
    intro m σ S e v o d now L hm hL hb hk D ho hp H
    obtain rfl : m = kk := by omega
    refine WC.reset hk fun σ0 => WC.loop ?_
    refine WC.seq (WC.seq (WC.region (us 3 rfl (WO.nil ?_))))
    refine KX.seq_n (WC.condF (t := decide ((m : Int) < (m : Int))) rfl (by simp) (WC.exit (KX.seq_x (KX.seq_x ?_))))
    exact hex _ _ _ v o d now L (known_cons rfl (known_cons rfl (known_cons rfl (known_cons rfl (known_cons rfl known_nil))))) hL hb D hp H
  | succ j ih =>
    intro m σ S e v o d now L hm hL hb hk D ho hp H
    have hcl := cat_len (n := mm) fun b h => Nat.le_of_eq (hb b h)
    have hcl2 : mm * L.length ≤ 30 * 40 := Nat.mul_le_mul hmm.2 (by omega)
    refine WC.reset hk fun σ0 => WC.loop ?_
    refine WC.seq (WC.seq (WC.region (us 3 rfl (WO.nil ?_))))
    refine KX.seq_n (WC.condT (t := decide ((m : Int) < (kk : Int))) rfl (by simp; omega) (WC.skip ?_))
    refine KX.seq_n (WC.seq (WC.block (WC.seqR (us 1 rfl (WO.nil ?_)))))
    refine WC.seq (WC.seqR (us 1 rfl (WO.nil (WC.block ?_))))
    refine k4b (keep := keep) (i := i) (kk := kk) (mm := mm) (ix := m) (al := cat L) hmm.2 (by omega) ?_ mm 0 _ _ [] (by omega) rfl (known_cons rfl (known_cons rfl (known_cons rfl (known_cons rfl (known_cons rfl (known_cons rfl (known_cons rfl (known_cons rfl known_nil))))))))
    intro σ1 e1 w hk1 hw
    refine KX.block_x (KX.seq_n (WC.reset hk1 fun σ2 => ?_))
    obtain ⟨d1, w1, D1⟩ := write_is (n := FF) (s := cat L) (x := cat L ++ w) (opA w) D ho (by rw [List.length_append]; omega) (by omega) (by omega) (by omega)
    have W1 := append_dk (n := FF) (b := w) (x := cat L ++ w) hp H (by rw [D.pend, List.length_map]; omega) (by rw [D.now]; exact ho.len) (by rw [D.now, ho.get]; exact Str.app?_ok (by omega))
    rw [w1] at W1
    obtain ⟨S1, v1, o1, x1, h1, hp1, H1, _⟩ := W1
    refine WC.seq (WC.seqR (us 2 rfl ?_))
    refine WO.step (v := .int .i64 0) rfl (nz rfl (stp_call rfl rfl h1)) (us 1 rfl (WO.nil ?_))
    refine WC.condF rfl rfl (WC.skip (KX.seq_n ?_))
    refine WC.region (us 2 rfl ?_)
    refine WO.step rfl (nz rfl (stp_strApp rfl rfl (Str.app?_ok (a := cat L) (b := w) (by omega)))) (us 1 rfl (WO.nil ?_))
    refine KX.block_n (KX.seq_n (WC.region (us 3 rfl (WO.nil (KX.seq_n ?_)))))
    have e2 : ad .i64 (m : Int) 1 = ((m + 1 : Nat) : Int) := ad_nat (by omega)
    have ec : cat (L ++ [w]) = cat L ++ w := by rw [cat_append, cat, cat, List.append_nil]
    refine ih (m + 1) _ _ _ v1 o1 d1 [(FF, cat L ++ w)] (L ++ [w]) (by omega) (by rw [List.length_append, hL]; rfl) ?_ (known_cons rfl (known_cons rfl (known_cons rfl (known_cons rfl (known_cons (Eq.trans rfl (congrArg PV.str ec.symm)) (known_cons (Eq.trans rfl (congrArg (PV.int .i64) e2)) known_nil)))))) (by rw [List.map_append]; exact D1) (by rw [ec]; exact .inr rfl) hp1 H1
    intro b hb'
    rcases List.mem_append.1 hb' with h | h
    · exact hb b h
    · obtain rfl := List.mem_singleton.1 h; exact hw
/-- Up to the first bit that isn't set. -/
theorem k4c {keep : Int} {i kk mm : Nat} {al : Str} {K : KX} {S : List SObj} (hkk : kk ≤ 40)
    (hex : ∀ (σ' : Nat → PV) (e' : Bool) (m : Nat), Known [(1, .int .u64 keep), (7, .int .i64 (kk : Int)), (8, .int .i64 (mm : Int)), (9, .ptr i 0), (10, .str al), (14, .int .i64 (m : Int))] σ' → m ≤ kk → (∀ x : Nat, x < m → bitK keep x = true) → (m < kk → bitK keep m = false) → K (.exit 4) σ' S e') :
    ∀ (j m : Nat) (σ : Nat → PV) (e : Bool), m + j = kk → (∀ x : Nat, x < m → bitK keep x = true) → Known [(1, .int .u64 keep), (7, .int .i64 (kk : Int)), (8, .int .i64 (mm : Int)), (9, .ptr i 0), (10, .str al), (14, .int .i64 (m : Int))] σ → WC env ⟨96, 0⟩ (.loop pc4L4) σ S e K := by
  intro j
  induction j with
  | zero =>
    intro m σ e hm hb hk
    refine WC.reset hk fun σ0 => WC.loop ?_
    refine WC.seq (WC.seq (WC.region (us 2 rfl ?_)))
    refine WO.step (v := .bool (decide ((m : Int) < (kk : Int)))) rfl (nz rfl rfl) ?_
    rw [show decide ((m : Int) < (kk : Int)) = false by simp; omega]
    refine us 8 rfl (WO.nil ?_)
    refine KX.seq_n (WC.condF rfl rfl (WC.exit (KX.seq_x (KX.seq_x ?_))))
    exact hex _ _ m (known_cons rfl (known_cons rfl (known_cons rfl (known_cons rfl (known_cons rfl (known_cons rfl known_nil)))))) (by omega) hb (fun h => by omega)
  | succ j ih =>
    intro m σ e hm hb hk
    refine WC.reset hk fun σ0 => WC.loop ?_
    refine WC.seq (WC.seq (WC.region (us 2 rfl ?_)))
    refine WO.step (v := .bool (decide ((m : Int) < (kk : Int)))) rfl (nz rfl rfl) ?_
    rw [show decide ((m : Int) < (kk : Int)) = true by simp; omega]
    refine us 3 rfl ?_
    refine WO.go0 (b := true) rfl rfl (WO.step (v := .int .u64 (cv .u64 (m : Int))) rfl (nz rfl rfl) ?_)
    have ec : cv .u64 (m : Int) = (m : Int) := by unfold cv; rw [IntKind.wrap_u64]; omega
    have e1 : shr? .u64 keep (cv .u64 (m : Int)) = some (keep.fdiv (2 ^ (min m 64))) := by rw [ec]; unfold shr?; rw [if_neg (by omega)]; rfl
    refine WO.go0 (b := true) rfl rfl (WO.step rfl (nz rfl (stp_shr rfl rfl e1)) (us 1 rfl ?_))
    refine WO.go0 (b := true) rfl rfl (WO.step (v := .bool (bAnd .u64 (keep.fdiv (2 ^ (min m 64))) 1 == 1)) rfl (nz rfl rfl) (us 1 rfl (WO.nil ?_)))
    have hbm : bitK keep m = (bAnd .u64 (keep.fdiv (2 ^ (min m 64))) 1 == 1) := by unfold bitK; rw [if_pos (by omega)]
    by_cases hbit : bitK keep m = true
    · refine KX.seq_n (WC.condT rfl (by rw [← hbm]; exact hbit) (WC.skip ?_))
      refine KX.seq_n (WC.block (WC.region (us 3 rfl (WO.nil (KX.block_n (KX.seq_n ?_))))))
      have e2 : ad .i64 (m : Int) 1 = ((m + 1 : Nat) : Int) := ad_nat (by omega)
      refine ih (m + 1) _ _ (by omega) ?_ (known_cons rfl (known_cons rfl (known_cons rfl (known_cons rfl (known_cons rfl (known_cons (Eq.trans rfl (congrArg (PV.int .i64) e2)) known_nil))))))
      intro x hx
      rcases Nat.lt_or_ge x m with h | h
      · exact hb x h
      · obtain rfl : x = m := by omega
        exact hbit
    · have hbit : bitK keep m = false := by simpa using hbit
      refine KX.seq_n (WC.condF rfl (by rw [← hbm]; exact hbit) (WC.exit (KX.seq_x (KX.seq_x ?_))))
      exact hex _ _ m (known_cons rfl (known_cons rfl (known_cons rfl (known_cons rfl (known_cons rfl (known_cons rfl known_nil)))))) (by omega) hb (fun _ => hbit)
theorem bits_walk {n kp sz : Int} (hn : 0 ≤ n ∧ n < 256) (hs : 0 ≤ sz ∧ sz < 256) : evw env 4 [.int .u8 n, .int .u64 kp, .int .u8 sz] [] = some (.bool true, [], false) := by
  refine evw_pureW (bs := [.int .u8 n, .int .u64 kp, .int .u8 sz]) (pf := fn4) rfl rfl rfl (Nat.le_of_ble_eq_true rfl) rfl rfl ?_
  refine WB.of (pf := fn4) rfl ?_
  refine WC.seqR (us 1 rfl (WO.nil ?_))
  refine WC.seq (WC.seqR ?_)
  refine WO.step (v := .bool true) rfl (nz rfl (stp_call (vs := []) rfl rfl (s7 0 (r := true) rfl rfl _))) (us 1 rfl (WO.nil ?_))
  refine WC.condF rfl rfl (WC.skip (KX.seq_n ?_))
  have fin : ∀ {σ' : Nat → PV} {S : List SObj} {e : Bool}, σ' 6 = .bool true → KB env ⟨96, [.tmp 6], pc4, false⟩ (fun v' _ _ => v'.strip = .bool true) .ret σ' S e := fun {σ' S e} h => kr (.bool true) h rfl rfl
  -- how many, how long
  obtain ⟨r1, hr1, er1⟩ := rem?_nat (a := n) hn.1 (n := 40) (by omega)
  obtain ⟨r2, hr2, er2⟩ := rem?_nat (a := sz) hs.1 (n := 20) (by omega)
  refine WC.seqR (us 1 rfl ?_)
  refine WO.step rfl (nz rfl (stp_rem rfl rfl er1)) (us 3 rfl ?_)
  refine WO.step rfl (nz rfl (stp_rem rfl rfl er2)) (us 4 rfl (WO.nil ?_))
  have ek : ad .i64 (cv .i64 (r1 : Int)) 1 = ((r1 + 1 : Nat) : Int) := by rw [cv64 (by omega)]; exact ad_nat (by omega)
  have em : ad .i64 (cv .i64 (r2 : Int)) 2 = ((r2 + 2 : Nat) : Int) := by rw [cv64 (by omega), ad64 (by omega)]; omega
  refine WC.reset (l := [(1, .int .u64 kp), (7, .int .i64 ((r1 + 1 : Nat) : Int)), (8, .int .i64 ((r2 + 2 : Nat) : Int))]) (known_cons rfl (known_cons (Eq.trans rfl (congrArg (PV.int .i64) ek)) (known_cons (Eq.trans rfl (congrArg (PV.int .i64) em)) known_nil))) fun σ1 => ?_
  generalize hkk : r1 + 1 = kk
  generalize hmm : r2 + 2 = mm
  -- the disk
  have H := Hp.start []
  obtain ⟨S1, i, j1, j2, h1, hp, H⟩ := new_dk 1000000 H
  have D : DIs ⟨imin (imax 1000000 0) 1000000, [], [], [], 0, -1⟩ 1000000 [] [] [] 0 := ⟨by decide, rfl, rfl, rfl, rfl, rfl⟩
  refine WC.seqR ?_
  refine WO.step rfl (nz rfl (stp_call rfl rfl h1)) (us 1 rfl (WO.nil ?_))
  have hp : IsP (⟨imin (imax 1000000 0) 1000000, [], [], [], 0, -1⟩ : Dsk).pend .nils .dead := hp
  generalize (⟨imin (imax 1000000 0) 1000000, [], [], [], 0, -1⟩ : Dsk) = d0 at *
  refine WC.seqR (us 1 rfl (WO.nil ?_))
  refine WC.seq (WC.seqR (us 1 rfl (WO.nil (WC.block ?_))))
  refine k4a (keep := kp) (i := i) (j1 := j1) (j2 := j2) (kk := kk) (mm := mm) (by omega) (by omega) ?_ kk 0 _ S1 _ _ _ d0 [] [] (by omega) rfl (by simp) (known_cons rfl (known_cons rfl (known_cons rfl (known_cons rfl (known_cons rfl (known_cons rfl known_nil)))))) D (.inl ⟨rfl, rfl⟩) hp H
  intro σ2 S2 e2 v2 o2 d2 now2 L hk2 hL hb D2 hp2 H2
  refine KX.block_x (KX.seq_n (WC.reset hk2 fun σ3 => ?_))
  refine WC.seqR (us 1 rfl (WO.nil ?_))
  refine WC.seq (WC.block ?_)
  refine k4c (keep := kp) (i := i) (kk := kk) (mm := mm) (al := cat L) (by omega) ?_ kk 0 _ _ (by omega) (fun x hx => by omega) (known_cons rfl (known_cons rfl (known_cons rfl (known_cons rfl (known_cons rfl (known_cons rfl known_nil))))))
  intro σ4 e4 f hk4 hf hf1 hf2
  refine KX.block_x (KX.seq_n (WC.reset hk4 fun σ5 => ?_))
  have hLne : L ≠ [] := by intro h; rw [h] at hL; simp at hL; omega
  have hc := crash_bits (keep := kp) (mm := mm) (by omega) L 0 f [] [] [] hb (.inl ⟨rfl, rfl⟩) rfl (fun x hx => by rw [Nat.zero_add]; exact hf1 x hx) (fun h => by rw [Nat.zero_add]; exact hf2 (by omega)) (by omega) (.inl hLne)
  rw [List.nil_append] at hc
  have hcl : ∀ x : List Str, (∀ b ∈ x, b.length = mm) → (cat x).length = x.length * mm := fun x hx => by
    induction x with
    | nil => simp [cat]
    | cons b x ih => rw [cat, List.length_append, hx b (List.mem_cons_self ..), ih fun c h => hx c (List.mem_cons_of_mem _ h), List.length_cons, Nat.add_mul]; omega
  have hcL := hcl L hb
  have hkm : kk * mm ≤ 40 * 30 := Nat.mul_le_mul (by omega) (by omega)
  have hfm : f * mm ≤ 40 * 30 := Nat.mul_le_mul (by omega) (by omega)
  have hsum : ((L.map opA).map (·.b.length)).sum = (cat L).length := by
    have : ∀ x : List Str, ((x.map opA).map (·.b.length)).sum = (cat x).length := fun x => by
      induction x with
      | nil => rfl
      | cons b x ih => simp only [List.map_cons, List.sum_cons, cat, List.length_append]; rw [ih]
    exact this _
  have D8 := crash_room (keep := kp) D2 hc
  obtain ⟨S8, j8, h8, hp8, H8⟩ := crash_dk (keep := kp) hp2 H2 (by rw [D2.pend, List.length_map]; omega) (by rw [D2.kept, D2.pend, hsum]; intro q; simp [Mp.get?]; rw [hL] at hcL; omega)
  generalize d2.crash kp = d8 at *
  refine WC.seqR (us 2 rfl ?_)
  refine WO.step rfl (nz rfl (stp_call rfl rfl h8)) (WO.nil ?_)
  refine WC.seqR (us 2 rfl (WO.nil ?_))
  generalize hw : (cat L).take (if f = L.length then (cat L).length else f * mm + mm / 2) = w at *
  refine WC.seqJ (fun σ' S' _ => Known [(9, .ptr i 0), (15, .str w)] σ' ∧ S' = S8) ?_ ?_
  · refine WC.seqR (us 2 rfl ?_)
    refine WO.step (v := .bool (decide ((f : Int) < (kk : Int)))) rfl (nz rfl rfl) (WO.nil ?_)
    by_cases hfk : f < kk
    · refine WC.condT (t := decide ((f : Int) < (kk : Int))) rfl (by simp; omega) (WC.region (us 5 rfl ?_))
      have e3 : quo? .i64 (mm : Int) 2 = some ((mm / 2 : Nat) : Int) := by
        unfold quo?
        rw [if_neg (by decide)]
        congr 1
        rw [Int.tdiv_eq_ediv_of_nonneg (by omega), IntWalk.i64_in _ (by omega)]
        omega
      refine WO.step rfl (nz rfl (stp_quo rfl rfl e3)) ?_
      have e4 : ad .i64 (ml .i64 (f : Int) (mm : Int)) ((mm / 2 : Nat) : Int) = ((f * mm + mm / 2 : Nat) : Int) := by
        have : (f : Int) * (mm : Int) = ((f * mm : Nat) : Int) := by simp
        rw [ml64 (by rw [this]; omega), this, ad64 (by omega)]; omega
      refine WO.step (v := .int .i64 (ad .i64 (ml .i64 (f : Int) (mm : Int)) ((mm / 2 : Nat) : Int))) rfl (nz rfl rfl) ?_
      rw [e4]
      have hle : f * mm + mm / 2 ≤ (cat L).length := by
        rw [hcL, hL]
        have : (f + 1) * mm ≤ kk * mm := Nat.mul_le_mul_right _ hfk
        rw [Nat.add_mul] at this; omega
      have e5 : Str.sub? (cat L) 0 ((f * mm + mm / 2 : Nat) : Int) = some ((cat L).take (f * mm + mm / 2)) := by
        have := Str.sub?_nat (s := cat L) (l := 0) (h := f * mm + mm / 2) (by omega) hle
        simpa using this
      refine WO.step rfl (nz rfl (stp_subStr rfl rfl rfl rfl e5)) (us 1 rfl (WO.nil ?_))
      rw [if_neg (by omega)] at hw
      subst hw
      exact KX.seq_n ⟨known_cons rfl (known_cons rfl known_nil), rfl⟩
    · refine WC.condF (t := decide ((f : Int) < (kk : Int))) rfl (by simp; omega) (WC.skip (KX.seq_n ?_))
      rw [if_pos (by omega), List.take_length] at hw
      subst hw
      exact ⟨known_cons rfl (known_cons rfl known_nil), rfl⟩
  · rintro σ6 S9 e6 ⟨hk6, rfl⟩
    refine WC.reset hk6 fun σ7 => ?_
    have hr : d8.read FF = (w, 0) := by unfold Dsk.read; rw [D8.left, if_neg (by decide), D8.now, get_one]
    have h9 := read_dk (n := FF) H8
    rw [hr] at h9
    refine WC.seqR (us 1 rfl ?_)
    refine WO.step (v := .tup [.str w, .int .i64 0]) rfl (nz rfl (stp_call rfl rfl h9)) (us 5 rfl (WO.nil ?_))
    refine WC.reset (l := [(15, .str w), (16, .str w), (17, .int .i64 0)]) (known_cons rfl (known_cons rfl (known_cons rfl known_nil))) fun σ8 => ?_
    refine WC.seqR (us 5 rfl ?_)
    refine WO.go0 (b := true) rfl rfl (WO.step (v := .bool (w == w)) rfl (nz rfl rfl) ?_)
    rw [show (w == w) = true by simp]
    exact us 2 rfl (WO.nil (WC.ret (fin rfl)))
theorem diskBits_true (a0 a1 a2 : Int) (o0 : (Lit.int .u8 a0).wf = true) (_ : (Lit.int .u64 a1).wf = true) (o2 : (Lit.int .u8 a2).wf = true) : evw env 4 [.int .u8 a0, .int .u64 a1, .int .u8 a2] [] = some (.bool true, [], false) := by
  have q : ∀ x : Int, (Lit.int .u8 x).wf = true → 0 ≤ x ∧ x < 256 := fun x h => by
    simp only [Lit.wf, IntKind.min, IntKind.max, IntKind.signed, IntKind.bits, Bool.and_eq_true] at h
    have : (2 : Int) ^ 8 = 256 := by decide
    simp at h
    omega
  exact bits_walk (q _ o0) (q _ o2)
end Go.Proofs.Ytfpgfgpbjadoaaa.M
