/- csn.Parse of a number's text, walked: strings.Index of one byte, strings.Split of three pieces. -/
import Derived.Test.YtecimmaoilignaaGreatDoorSDn
import Derived.Test.YtecimmaoilignaaGreatDoorPamM4
namespace Go.Proofs.YtecimmaoilignaaGreatDoor.M.L
set_option linter.unusedVariables false
set_option linter.unusedSimpArgs false
open Go Go.Pam Go.RowKit
set_option maxRecDepth 4000
set_option linter.unusedSimpArgs false
theorem nb {fr : Fr} {σ : Nat → PV} {S : List SObj} {d : Option Nat} {op : Op} {g : Option (Nat × Bool)} {t r : Bool} (hz : frzT (frzArgs env.ctx σ op) σ S = (σ, S)) (hs : stp env fr σ S op = some (.bool t, S, false)) (h : t = r) :
    stF env fr σ S ⟨d, op, g, false⟩ = some (.bool r, S, false) := by subst h; exact nz hz hs
theorem ni {fr : Fr} {σ : Nat → PV} {S : List SObj} {d : Option Nat} {op : Op} {g : Option (Nat × Bool)} {k : IntKind} {t r : Int} (hz : frzT (frzArgs env.ctx σ op) σ S = (σ, S)) (hs : stp env fr σ S op = some (.int k t, S, false)) (h : t = r) :
    stF env fr σ S ⟨d, op, g, false⟩ = some (.int k r, S, false) := by subst h; exact nz hz hs
theorem s225 (c : UInt8) (s : Str) (hs : ([c] == s) = false) (S : List SObj) : evw env 225 [.str s, .str [c]] S = some (.int .i64 (Lib.indexByte s ((c.toNat : Int)).toNat.toUInt8), S, false) := by
  refine evw_pureW (pf := fn225) (bs := [.str s, .str [c]]) rfl rfl rfl (Nat.le_of_ble_eq_true rfl) rfl rfl ?_
  refine WB.of (pf := fn225) rfl ?_
  refine WC.seqR (us 1 rfl (WO.nil ?_))
  refine WC.seqR (us 3 rfl (WO.nil ?_))
  refine WC.seq (WC.block ?_)
  refine WC.seqR (us 8 rfl (WO.nil ?_))
  refine WC.condF (t := ([c] == s)) rfl hs (WC.seqR (us 3 rfl (WO.nil ?_)))
  refine WC.condT rfl rfl (WC.seqR (us 3 rfl ?_))
  refine WO.step rfl (nz rfl (stp_call rfl rfl (evw_idx rfl _))) (us 1 rfl (WO.nil ?_))
  exact WC.ret (KX.block_r (KX.seq_r (Kr (.int .i64 _) rfl rfl)))
theorem s193 (c : UInt8) (s : Str) (hs : ([c] == s) = false) (S : List SObj) : evw env 193 [.str s, .str [c]] S = some (.int .i64 (Lib.indexByte s ((c.toNat : Int)).toNat.toUInt8), S, false) := by
  refine evw_pureW (pf := fn193) (bs := [.str s, .str [c]]) rfl rfl rfl (Nat.le_of_ble_eq_true rfl) rfl rfl ?_
  refine WB.of (pf := fn193) rfl ?_
  refine WC.seqR (us 1 rfl (WO.nil ?_))
  refine WC.seqR (us 2 rfl ?_)
  refine WO.step rfl (nz rfl (stp_call rfl rfl (s225 c s hs _))) (us 1 rfl (WO.nil ?_))
  exact WC.ret (Kr (.int .i64 _) rfl rfl)
theorem idx_at' (x y : Str) (h : ∀ c ∈ x, c ≠ 46) : Lib.indexByte (x ++ 46 :: y) 46 = (x.length : Int) := by
  induction x with
  | nil => simp [Lib.indexByte]
  | cons c x ih =>
    have h1 := h c (List.mem_cons_self ..)
    have ih := ih fun d hd => h d (List.mem_cons_of_mem _ hd)
    rw [List.cons_append, Lib.indexByte, if_neg (by simpa using h1), ih, if_neg (by simp), List.length_cons]
    omega
theorem idx_at (x y : Str) (h : ∀ c ∈ x, c ≠ 46) : Lib.indexByte (x ++ 46 :: y) (((46 : UInt8).toNat : Int)).toNat.toUInt8 = (x.length : Int) := idx_at' x y h
theorem cnt_cons (c d : UInt8) (x : Str) : cntB c (d :: x) = cntB c x + if d = c then 1 else 0 := by
  have : cntB c (d :: x) = match Nat.beq d.toNat c.toNat with | true => cntB c x + 1 | false => cntB c x := rfl
  rw [this]
  by_cases h : d = c
  · subst h
    rw [show Nat.beq d.toNat d.toNat = true from Nat.beq_refl _, if_pos rfl]
  · have hf : Nat.beq d.toNat c.toNat = false := by
      rw [Bool.eq_false_iff]
      intro he
      exact h (UInt8.toNat_inj.1 (Nat.eq_of_beq_eq_true he))
    rw [hf, if_neg h]; rfl
theorem cnt_app (x y : Str) : cntB 46 (x ++ y) = cntB 46 x + cntB 46 y := by
  induction x with
  | nil => simp [cntB]
  | cons c x ih => rw [List.cons_append, cnt_cons, cnt_cons, ih]; omega
theorem cnt_no (x : Str) (h : ∀ c ∈ x, c ≠ 46) : cntB 46 x = 0 := by
  induction x with
  | nil => rfl
  | cons c x ih => rw [cnt_cons, if_neg (h c (List.mem_cons_self ..)), ih fun d hd => h d (List.mem_cons_of_mem _ hd)]
/-- Three pieces. -/
def three (x y z : Str) : Str := x ++ 46 :: (y ++ 46 :: z)
theorem cnt3 {x y z : Str} (hx : ∀ c ∈ x, c ≠ 46) (hy : ∀ c ∈ y, c ≠ 46) (hz : ∀ c ∈ z, c ≠ 46) : cntB 46 (three x y z) = 2 := by
  unfold three
  rw [cnt_app, cnt_no x hx, cnt_cons, cnt_app, cnt_no y hy, cnt_cons, cnt_no z hz]
  simp
theorem s172 {x y z : Str} (hx : ∀ c ∈ x, c ≠ 46) (hy : ∀ c ∈ y, c ≠ 46) (hz : ∀ c ∈ z, c ≠ 46) (hx0 : x ≠ []) (hy0 : y ≠ []) (hl : (three x y z).length < 1000000) (S : List SObj) :
    evw env 172 [.str (three x y z), .str [46], .int .i64 0, .int .i64 (-1)] S = some (.lst [.str x, .str y, .str z] .none, S, false) := by
  have n1 : ([46] == three x y z) = false := by
    rw [beq_eq_false_iff_ne]
    intro h
    have := congrArg List.length h
    have := List.length_pos_iff.2 hx0
    simp [three] at *
    omega
  have n2 : ([46] == y ++ 46 :: z) = false := by
    rw [beq_eq_false_iff_ne]
    intro h
    have := congrArg List.length h
    have := List.length_pos_iff.2 hy0
    simp at *
    omega
  have hlen : (three x y z).length = x.length + (y.length + (z.length + 1) + 1) := by simp [three]
  have c3 : ∀ S, evw env 192 [.str (three x y z), .str [46]] S = some (.int .i64 2, S, false) := fun S => evw_intr (f := 192) rfl (by
    show some (PV.int IntKind.i64 ((cntB 46 (three x y z) : Nat) : Int), S, false) = _
    rw [cnt3 hx hy hz]; rfl)
  have i1 := idx_at x (y ++ 46 :: z) hx
  have i2 := idx_at y z hy
  refine evw_pureW (pf := fn172) (bs := [.str (three x y z), .str [46], .int .i64 0, .int .i64 (-1)]) rfl rfl rfl (Nat.le_of_ble_eq_true rfl) rfl rfl ?_
  refine WB.of (pf := fn172) rfl ?_
  refine WC.seqR (us 1 rfl (WO.nil ?_))
  refine WC.seq (WC.seqR (us 2 rfl (WO.nil ?_)))
  refine WC.condF rfl rfl (WC.skip (KX.seq_n ?_))
  refine WC.seq (WC.seqR (us 2 rfl (WO.nil ?_)))
  refine WC.condF rfl rfl (WC.skip (KX.seq_n ?_))
  refine WC.seq (WC.seqR (us 2 rfl (WO.nil ?_)))
  refine WC.condT rfl rfl (WC.region (us 2 rfl ?_))
  refine WO.step rfl (nz rfl (stp_call rfl rfl (c3 _))) (us 2 rfl (WO.nil (KX.seq_n ?_)))
  refine WC.seqR (us 4 rfl ?_)
  refine WO.step (v := .int .i64 3) (S' := []) (e' := false) rfl (nz rfl ?_) (us 1 rfl (WO.nil ?_))
  · show some (PV.int IntKind.i64 (if ad .i64 (Str.len (three x y z)) 1 < ad .i64 2 1 then ad .i64 (Str.len (three x y z)) 1 else ad .i64 2 1), ([] : List SObj), false) = _
    have h1 : ad .i64 (Str.len (three x y z)) 1 = ((three x y z).length : Int) + 1 := by rw [Str.len_nat, ad64 (by omega)]
    have h2 : ad .i64 2 1 = 3 := by decide
    rw [h1, h2, if_neg (by omega)]
  refine WC.reset (l := [(0, .str (three x y z)), (1, .str [46]), (2, .int .i64 0), (3, .int .i64 3)]) (known_cons rfl (known_cons rfl (known_cons rfl (known_cons rfl known_nil)))) fun σ1 => ?_
  refine WC.seqR (us 1 rfl ?_)
  refine WO.step (v := .rsl 0 3) (S' := [.row [.str [], .str [], .str []] 1 false]) (e' := false) rfl rfl (us 1 rfl (WO.nil ?_))
  have e1 : ∀ S, evw env 193 [.str (three x y z), .str [46]] S = some (.int .i64 (x.length : Int), S, false) := fun S => by rw [s193 46 _ n1 S, show three x y z = x ++ 46 :: (y ++ 46 :: z) from rfl, i1]
  have e2 : ∀ S, evw env 193 [.str (y ++ 46 :: z), .str [46]] S = some (.int .i64 (y.length : Int), S, false) := fun S => by rw [s193 46 _ n2 S, i2]
  have z0 : ∀ n : Nat, n < 1000000 → ad .i64 (n : Int) 0 = (n : Int) := fun n hn => by rw [ad64 (by omega)]; omega
  have z1 : ∀ n : Nat, n < 1000000 → ad .i64 (n : Int) (Str.len [46]) = ((n + 1 : Nat) : Int) := fun n hn => by rw [show Str.len [46] = 1 from rfl, ad64 (by omega)]; omega
  have a1 : Str.sub? (three x y z) 0 (ad .i64 (x.length : Int) 0) = some x := by
    rw [z0 _ (by omega)]
    have := Str.sub?_nat (s := three x y z) (l := 0) (h := x.length) (by omega) (by omega)
    rw [show ((0 : Nat) : Int) = 0 from rfl] at this
    rw [this]; simp [three]
  have b1 : Str.sub? (three x y z) (ad .i64 (x.length : Int) (Str.len [46])) ((three x y z).length : Int) = some (y ++ 46 :: z) := by
    rw [z1 _ (by omega), Str.sub?_nat (by omega) (by omega)]
    simp [three, List.take_of_length_le, List.drop_append]
  have a2 : Str.sub? (y ++ 46 :: z) 0 (ad .i64 (y.length : Int) 0) = some y := by
    rw [z0 _ (by omega)]
    have := Str.sub?_nat (s := y ++ 46 :: z) (l := 0) (h := y.length) (by omega) (by simp)
    rw [show ((0 : Nat) : Int) = 0 from rfl] at this
    rw [this]; simp
  have b2 : Str.sub? (y ++ 46 :: z) (ad .i64 (y.length : Int) (Str.len [46])) ((y ++ 46 :: z).length : Int) = some z := by
    rw [z1 _ (by omega), Str.sub?_nat (by simp) (by omega)]
    simp [List.take_of_length_le, List.drop_append]
  refine WC.seqR (us 3 rfl (WO.nil ?_))
  refine WC.seqR (us 1 rfl (WO.nil ?_))
  refine WC.seq (WC.block (WC.loop ?_))
  refine WC.seq (WC.seqR (us 3 rfl (WO.nil ?_)))
  refine WC.condT rfl rfl (WC.skip (KX.seq_n ?_))
  refine WC.block (WC.seqR (us 2 rfl ?_))
  refine WO.step rfl (nz rfl (stp_call rfl rfl (e1 _))) (us 1 rfl (WO.nil ?_))
  refine WC.seq (WC.seqR (us 2 rfl (WO.nil ?_)))
  refine WC.condF (t := decide ((x.length : Int) < 0)) rfl (by simp) (WC.skip (KX.seq_n ?_))
  refine WC.seqR (us 6 rfl ?_)
  refine WO.step (v := .str x) rfl (nz rfl (stp_subStr rfl rfl rfl rfl a1)) (us 2 rfl (WO.nil ?_))
  refine WC.seqR (us 5 rfl ?_)
  refine WO.step rfl (nz rfl (stp_subStr rfl rfl rfl rfl b1)) (us 1 rfl (WO.nil ?_))
  refine WC.region (us 3 rfl (WO.nil (KX.block_n (KX.seq_n ?_))))
  refine WC.loop ?_
  refine WC.seq (WC.seqR (us 3 rfl (WO.nil ?_)))
  refine WC.condT rfl rfl (WC.skip (KX.seq_n ?_))
  refine WC.block (WC.seqR (us 2 rfl ?_))
  refine WO.step rfl (nz rfl (stp_call rfl rfl (e2 _))) (us 1 rfl (WO.nil ?_))
  refine WC.seq (WC.seqR (us 2 rfl (WO.nil ?_)))
  refine WC.condF (t := decide ((y.length : Int) < 0)) rfl (by simp) (WC.skip (KX.seq_n ?_))
  refine WC.seqR (us 6 rfl ?_)
  refine WO.step (v := .str y) rfl (nz rfl (stp_subStr rfl rfl rfl rfl a2)) (us 2 rfl (WO.nil ?_))
  refine WC.seqR (us 5 rfl ?_)
  refine WO.step rfl (nz rfl (stp_subStr rfl rfl rfl rfl b2)) (us 1 rfl (WO.nil ?_))
  refine WC.region (us 3 rfl (WO.nil (KX.block_n (KX.seq_n ?_))))
  refine WC.loop ?_
  refine WC.seq (WC.seqR (us 3 rfl (WO.nil ?_)))
  refine WC.condF rfl rfl (WC.exit (KX.seq_x (KX.seq_x (KX.block_x (KX.seq_n ?_)))))
  refine WC.seqR (us 5 rfl (WO.nil ?_))
  refine WC.seqR (us 5 rfl (WO.nil ?_))
  exact WC.ret (KB.retZ rfl rfl rfl)
theorem s144 {x y z : Str} (hx : ∀ c ∈ x, c ≠ 46) (hy : ∀ c ∈ y, c ≠ 46) (hz : ∀ c ∈ z, c ≠ 46) (hx0 : x ≠ []) (hy0 : y ≠ []) (hl : (three x y z).length < 1000000) (S : List SObj) :
    evw env 144 [.str (three x y z), .str [46]] S = some (.lst [.str x, .str y, .str z] .none, S, false) := by
  refine evw_pureW (pf := fn144) (bs := [.str (three x y z), .str [46]]) rfl rfl rfl (Nat.le_of_ble_eq_true rfl) rfl rfl ?_
  refine WB.of (pf := fn144) rfl ?_
  refine WC.seqR (us 1 rfl (WO.nil ?_))
  refine WC.seqR (us 2 rfl ?_)
  refine WO.step rfl (nz rfl (stp_call rfl rfl (s172 hx hy hz hx0 hy0 hl _))) (us 1 rfl (WO.nil ?_))
  exact WC.ret (KB.retZ rfl rfl rfl)
/-- csn.Parse of what csn.Text tells. -/
theorem s110 {a b c : Int} {x y z : Str} (hx : ∀ c ∈ x, c ≠ 46) (hy : ∀ c ∈ y, c ≠ 46) (hz : ∀ c ∈ z, c ≠ 46) (hx0 : x ≠ []) (hy0 : y ≠ []) (hl : (three x y z).length < 1000000)
    (px : pint? x = some a) (py : pint? y = some b) (pz : pint? z = some c) (ha : 0 ≤ a ∧ a ≤ 1099511627776) (hb : 0 ≤ b ∧ b ≤ 65535) (hc : 0 ≤ c ∧ c < 6) (ht : F55 0 ⟨a, b, c⟩ = some (three x y z)) (S : List SObj) :
    evw env 110 [.str (three x y z)] S = some (.tup [.agg [.int .i64 a, .int .i64 b, .int .i64 c], .int .i64 0], S, false) := by
  have h73 : F73 0 ⟨a, b, c⟩ = some true := by
    unfold F73
    simp [ha.1, ha.2, hb.1, hb.2, hc.1, hc.2]
  refine evw_pureW (pf := fn110) (bs := [.str (three x y z)]) rfl rfl rfl (Nat.le_of_ble_eq_true rfl) rfl rfl ?_
  refine WB.of (pf := fn110) rfl ?_
  refine WC.seqR (us 2 rfl (WO.nil ?_))
  refine WC.seqR (us 1 rfl ?_)
  refine WO.step rfl (nz rfl (stp_call rfl rfl (s144 hx hy hz hx0 hy0 hl _))) (us 1 rfl (WO.nil ?_))
  refine WC.seq (WC.seqR (us 3 rfl (WO.nil ?_)))
  refine WC.condF rfl rfl (WC.skip (KX.seq_n ?_))
  refine WC.seqR (us 1 rfl (WO.nil ?_))
  refine WC.seq (WC.seqR (us 3 rfl (WO.nil ?_)))
  refine WC.reset (l := [(0, .str (three x y z)), (2, .ptr 0 0), (3, .int .i64 0), (4, .lst [.str x, .str y, .str z] .none), (5, .ptr 1 0), (17, .lst [.str x, .str y, .str z] .none), (18, .int .i64 3), (19, .int .i64 0)]) (known_cons rfl (known_cons rfl (known_cons rfl (known_cons rfl (known_cons rfl (known_cons rfl (known_cons rfl (known_cons rfl known_nil)))))))) fun σ1 => ?_
  refine WC.block (WC.loop ?_)
  refine WC.seqR (us 1 rfl (WO.nil ?_))
  refine WC.seq (WC.condT rfl rfl (WC.skip (KX.seq_n ?_)))
  refine WC.seq (WC.block ?_)
  refine WC.seqR (us 5 rfl (WO.nil ?_))
  refine WC.seqR (us 1 rfl ?_)
  refine WO.step rfl (nz rfl (stp_call rfl rfl (evw_pi px _))) (us 5 rfl (WO.nil ?_))
  refine WC.seq (WC.seqR (us 4 rfl ?_))
  refine WO.go0 rfl rfl (WO.step (v := .bool false) rfl (nb (t := decide (a < 0)) rfl rfl (decide_eq_false (by omega))) (us 3 rfl ?_))
  refine WO.go0 rfl rfl (WO.step (v := .bool false) rfl (nb (t := decide (a > 1099511627776)) rfl rfl (decide_eq_false (by omega))) (us 1 rfl (WO.nil ?_)))
  refine WC.condF rfl rfl (WC.skip (KX.seq_n ?_))
  refine WC.region (us 4 rfl (WO.nil (KX.block_n (KX.seq_n ?_))))
  refine WC.region (us 2 rfl (WO.nil (KX.seq_n ?_)))
  refine WC.reset (l := [(0, .str (three x y z)), (2, .ptr 0 0), (3, .int .i64 0), (4, .lst [.str x, .str y, .str z] .none), (5, .ptr 1 0), (17, .lst [.str x, .str y, .str z] .none), (18, .int .i64 3), (19, .int .i64 1)]) (known_cons rfl (known_cons rfl (known_cons rfl (known_cons rfl (known_cons rfl (known_cons rfl (known_cons rfl (known_cons rfl known_nil)))))))) fun σ2 => ?_
  refine id (WC.loop ?_)
  refine WC.seqR (us 1 rfl (WO.nil ?_))
  refine WC.seq (WC.condT rfl rfl (WC.skip (KX.seq_n ?_)))
  refine WC.seq (WC.block ?_)
  refine WC.seqR (us 5 rfl (WO.nil ?_))
  refine WC.seqR (us 1 rfl ?_)
  refine WO.step rfl (nz rfl (stp_call rfl rfl (evw_pi py _))) (us 5 rfl (WO.nil ?_))
  refine WC.seq (WC.seqR (us 4 rfl ?_))
  refine WO.go0 rfl rfl (WO.step (v := .bool false) rfl (nb (t := decide (b < 0)) rfl rfl (decide_eq_false (by omega))) (us 3 rfl ?_))
  refine WO.go0 rfl rfl (WO.step (v := .bool false) rfl (nb (t := decide (b > 1099511627776)) rfl rfl (decide_eq_false (by omega))) (us 1 rfl (WO.nil ?_)))
  refine WC.condF rfl rfl (WC.skip (KX.seq_n ?_))
  refine WC.region (us 4 rfl (WO.nil (KX.block_n (KX.seq_n ?_))))
  refine WC.region (us 2 rfl (WO.nil (KX.seq_n ?_)))
  refine WC.reset (l := [(0, .str (three x y z)), (2, .ptr 0 0), (3, .int .i64 0), (4, .lst [.str x, .str y, .str z] .none), (5, .ptr 1 0), (17, .lst [.str x, .str y, .str z] .none), (18, .int .i64 3), (19, .int .i64 2)]) (known_cons rfl (known_cons rfl (known_cons rfl (known_cons rfl (known_cons rfl (known_cons rfl (known_cons rfl (known_cons rfl known_nil)))))))) fun σ3 => ?_
  refine id (WC.loop ?_)
  refine WC.seqR (us 1 rfl (WO.nil ?_))
  refine WC.seq (WC.condT rfl rfl (WC.skip (KX.seq_n ?_)))
  refine WC.seq (WC.block ?_)
  refine WC.seqR (us 5 rfl (WO.nil ?_))
  refine WC.seqR (us 1 rfl ?_)
  refine WO.step rfl (nz rfl (stp_call rfl rfl (evw_pi pz _))) (us 5 rfl (WO.nil ?_))
  refine WC.seq (WC.seqR (us 4 rfl ?_))
  refine WO.go0 rfl rfl (WO.step (v := .bool false) rfl (nb (t := decide (c < 0)) rfl rfl (decide_eq_false (by omega))) (us 3 rfl ?_))
  refine WO.go0 rfl rfl (WO.step (v := .bool false) rfl (nb (t := decide (c > 1099511627776)) rfl rfl (decide_eq_false (by omega))) (us 1 rfl (WO.nil ?_)))
  refine WC.condF rfl rfl (WC.skip (KX.seq_n ?_))
  refine WC.region (us 4 rfl (WO.nil (KX.block_n (KX.seq_n ?_))))
  refine WC.region (us 2 rfl (WO.nil (KX.seq_n ?_)))
  refine WC.loop (WC.seqR (us 1 rfl (WO.nil ?_)))
  refine WC.seq (WC.condF rfl rfl (WC.exit (KX.seq_x (KX.seq_x (KX.block_x (KX.seq_n ?_))))))
  refine WC.seqR (us 9 rfl (WO.nil ?_))
  refine WC.seq (WC.seqR (us 1 rfl ?_))
  refine WO.step rfl (nz rfl (stp_call rfl rfl (s73 0 h73 rfl _))) (us 3 rfl ?_)
  refine WO.go0 rfl rfl (WO.step rfl (nz rfl (stp_call rfl rfl (s55 0 ht rfl _))) (us 1 rfl ?_))
  refine WO.go0 rfl rfl (WO.step (v := .bool false) rfl (nb (t := three x y z != three x y z) rfl rfl (by simp)) (us 1 rfl (WO.nil ?_)))
  refine WC.condF rfl rfl (WC.skip (KX.seq_n ?_))
  refine WC.seqR (us 3 rfl (WO.nil ?_))
  exact WC.ret (KB.retZ rfl rfl rfl)
end Go.Proofs.YtecimmaoilignaaGreatDoor.M.L
