/- DiskRooms: the walk, the law. -/
import Derived.Test.YtfpgfgpbjadoaaaDQ
import Derived.Test.YtfpgfgpbjadoaaaDDk
namespace Go.Proofs.Ytfpgfgpbjadoaaa.M
set_option linter.unusedVariables false
set_option linter.unusedSimpArgs false
open Go Go.Pam
set_option maxRecDepth 4000
abbrev AA : Str := [97]
abbrev BB : Str := [98]
def zs (h : Nat) : Str := Str.of (some (List.replicate h (0 : Int)))
theorem zs_len (h : Nat) : (zs h).length = h := by simp [zs, Str.of, Sl.l]
theorem mk34 {σ : Nat → PV} {S : List SObj} {fr : Fr} {l c : Operand} {h : Nat} (hl : opd σ l = .int .i64 h) (hc : opd σ c = .int .i64 h) (hh : h ≤ 100000) : stp env fr σ S (.makeSlice 34 l c) = some (.lst ((List.replicate h (0 : Int)).map (eI .u8)) .full, S, false) := by
  have ht : env.ctx.ty 34 = some ty34 := rfl
  have he : env.ctx.ty 5 = some ty5 := rfl
  simp only [stp, evStep, hl, hc, makeSlicePV, ht, ty34, he, ty5]
  rw [if_pos ⟨by omega, trivial, by omega, by omega, by decide, rfl, rfl⟩]
  simp [eI]
theorem write_go {d : Dsk} {room t : Int} {kept now : Mp Str} {pend : List DOp} {k : Nat} {n x : Str} (y : DOp) (h : DIs d room kept now pend k) (ht : d.total n x = t) (hle : t ≤ room) (hk : k < 1000000) :
    ∃ q, d.write n x y = (q, 0) ∧ DIs q room kept (Mp.put now n x) (pend ++ [y]) (k + 1) := by
  refine ⟨_, ?_, step_is (d := { d with now := Mp.put now n x, pend := d.pend ++ [y] }) h.room h.kept rfl (by rw [← h.pend]) h.steps h.left hk⟩
  unfold Dsk.write
  rw [h.left, if_neg (by decide), ht, h.room, if_neg (by simp; omega), h.now]
theorem write_no {d : Dsk} {room t : Int} {kept now : Mp Str} {pend : List DOp} {k : Nat} {n x : Str} (y : DOp) (h : DIs d room kept now pend k) (ht : d.total n x = t) (hgt : room < t) : d.write n x y = (d, 21) := by
  unfold Dsk.write
  rw [h.left, if_neg (by decide), ht, h.room, if_pos (by simp; omega)]
theorem app_of {a b : Str} (h : a.length + b.length ≤ 1000000) : Str.app? a b = some (a ++ b) := by
  unfold Str.app?
  rw [if_neg]
  have : IntKind.i64.max = 9223372036854775807 := rfl
  rw [this]; omega
theorem get_a (x y : Str) : Mp.get? [(AA, x), (BB, y)] AA = some x := rfl
theorem get_b (x y : Str) : Mp.get? [(AA, x), (BB, y)] BB = some y := rfl
theorem s3 {a b c d : Nat} (ha : a ≤ 100000) (hb : b ≤ 100000) (hc : c ≤ 100000) (hd : d ≤ 100000) : ad .i64 (ad .i64 (sb .i64 (a : Int) b) c) d = (a : Int) - b + c + d := by
  rw [sb64 (by omega), ad64 (x := (a : Int) - b) (by omega), ad64 (by omega)]
theorem rooms_walk {r n : Int} (hr : 0 ≤ r ∧ r < 65536) (hn : 0 ≤ n ∧ n < 256) : evw env 6 [.int .u16 r, .int .u8 n] [] = some (.bool true, [], false) := by
  refine evw_pureW (bs := [.int .u16 r, .int .u8 n]) (pf := fn6) rfl rfl rfl (Nat.le_of_ble_eq_true rfl) rfl rfl ?_
  refine WB.of (pf := fn6) rfl ?_
  refine WC.seqR (us 1 rfl (WO.nil ?_))
  refine WC.seq (WC.seqR ?_)
  refine WO.step (v := .bool true) rfl (nz rfl (stp_call (vs := []) rfl rfl (s7 0 (r := true) rfl rfl _))) (us 1 rfl (WO.nil ?_))
  refine WC.condF rfl rfl (WC.skip (KX.seq_n ?_))
  -- how many
  obtain ⟨k, hk, ek⟩ := rem?_nat (a := r) hr.1 (n := 2000) (by omega)
  refine WC.seqR (us 1 rfl ?_)
  refine WO.step rfl (nz rfl (stp_rem rfl rfl ek)) (us 2 rfl (WO.nil ?_))
  have e5 : cv .i64 (k : Int) = (k : Int) := cv64 (by omega)
  refine WC.reset (l := [(1, .int .u8 n), (5, .int .i64 (k : Int))]) (known_cons rfl (known_cons (Eq.trans rfl (congrArg (PV.int .i64) e5)) known_nil)) fun σ1 => ?_
  -- the disk
  have H := Hp.start []
  obtain ⟨S1, i, j1, j2, h1, hp, H⟩ := new_dk (k : Int) H
  have D : DIs ⟨imin (imax k 0) 1000000, [], [], [], 0, -1⟩ k [] [] [] 0 := ⟨by simp only [imin, imax]; (repeat' split) <;> omega, rfl, rfl, rfl, rfl, rfl⟩
  refine WC.seqR (us 1 rfl ?_)
  refine WO.step rfl (nz rfl (stp_call rfl rfl h1)) (us 1 rfl (WO.nil ?_))
  generalize (⟨imin (imax k 0) 1000000, [], [], [], 0, -1⟩ : Dsk) = d0 at *
  -- half
  obtain ⟨h, hh⟩ : ∃ h : Nat, h = k / 2 := ⟨_, rfl⟩
  have e7 : IntKind.i64.wrap ((k : Int).tdiv 2) = (h : Int) := by
    have : (k : Int).tdiv 2 = (h : Int) := by rw [Int.tdiv_eq_ediv_of_nonneg (by omega)]; omega
    rw [this]; exact IntWalk.i64_in _ (by omega)
  refine WC.seqR (us 3 rfl (WO.nil ?_))
  refine WC.reset (l := [(1, .int .u8 n), (5, .int .i64 (k : Int)), (6, .ptr i 0), (7, .int .i64 (h : Int))]) (known_cons rfl (known_cons rfl (known_cons rfl (known_cons (Eq.trans rfl (congrArg (PV.int .i64) e7)) known_nil)))) fun σ2 => ?_
  -- what is written
  obtain ⟨b, hb⟩ : ∃ b : Nat, b = k - h := ⟨_, rfl⟩
  have eb : IntKind.i64.wrap ((k : Int) - (h : Int)) = (b : Int) := by
    have : (k : Int) - (h : Int) = (b : Int) := by omega
    rw [this]; exact IntWalk.i64_in _ (by omega)
  have la := zs_len h
  have lb := zs_len b
  have t1 : d0.total AA (zs h) = (h : Int) := by
    unfold Dsk.total
    rw [D.now]
    show sb .i64 (Str.len (zs h)) (Str.len []) = _
    rw [Str.len_nat, Str.len_nat, la, sb64 (by simp; omega)]; simp
  obtain ⟨d1, e1, D1⟩ := write_go ⟨AA, zs h, false⟩ D t1 (by omega) (by omega)
  have W1 := append_dk (n := AA) (b := zs h) (x := zs h) (by rw [D.pend]; exact hp) H (by rw [D.pend]; simp) (by rw [D.now]; simp) (by rw [D.now]; exact app_of (by simp [Mp.get?]; omega))
  rw [e1] at W1
  obtain ⟨S2, v2, o2, x2, h2, hp2, H2, _⟩ := W1
  have n1 : d1.now = [(AA, zs h)] := D1.now
  have t2 : d1.total BB (zs b) = (k : Int) := by
    unfold Dsk.total
    rw [n1]
    show ad .i64 (sb .i64 (Str.len (zs b)) (Str.len [])) (Str.len (zs h)) = _
    rw [Str.len_nat, Str.len_nat, Str.len_nat, la, lb, sb64 (by simp; omega), ad64 (by simp; omega)]; simp; omega
  obtain ⟨d2, e2, D2⟩ := write_go ⟨BB, zs b, false⟩ D1 t2 (by omega) (by omega)
  have W2 := append_dk (n := BB) (b := zs b) (x := zs b) hp2 H2 (by rw [D1.pend]; simp) (by rw [n1]; simp) (by rw [n1]; exact app_of (by simp [Mp.get?]; omega))
  rw [e2] at W2
  obtain ⟨S3, v3, o3, x3, h3, hp3, H3, _⟩ := W2
  have n2 : d2.now = [(AA, zs h), (BB, zs b)] := D2.now
  -- one more
  have t3 : d2.total AA (zs h ++ [120]) = (k + 1 : Int) := by
    unfold Dsk.total
    rw [n2]
    show ad .i64 (ad .i64 (sb .i64 (Str.len (zs h ++ [120])) (Str.len (zs h))) (Str.len (zs h))) (Str.len (zs b)) = _
    rw [Str.len_nat, Str.len_nat, Str.len_nat, List.length_append, la, lb, s3 (by simp; omega) (by omega) (by omega) (by omega)]; simp; omega
  have e3 := write_no (n := AA) (x := zs h ++ [120]) ⟨AA, [120], false⟩ D2 t3 (by omega)
  have W3 := append_dk (n := AA) (b := [120]) (x := zs h ++ [120]) hp3 H3 (by rw [D2.pend]; simp) (by rw [n2]; simp) (by rw [n2]; exact app_of (by simp [Mp.get?]; omega))
  rw [e3] at W3
  obtain ⟨S4, v4, o4, x4, h4, hp4, H4, _⟩ := W3
  -- an empty one
  have t4 : d2.total BB [] = (h : Int) := by
    unfold Dsk.total
    rw [n2]
    show ad .i64 (ad .i64 (sb .i64 (Str.len []) (Str.len (zs b))) (Str.len (zs h))) (Str.len (zs b)) = _
    rw [Str.len_nat, Str.len_nat, Str.len_nat, la, lb, s3 (by simp) (by omega) (by omega) (by omega)]; simp; omega
  obtain ⟨d3, e4, D3⟩ := write_go (n := BB) (x := []) ⟨BB, [], true⟩ D2 t4 (by omega) (by omega)
  have W4 := put_dk (n := BB) (b := []) hp4 H4 (by rw [D2.pend]; simp) (by rw [n2]; simp)
  rw [e4] at W4
  obtain ⟨S5, v5, o5, x5, h5, hp5, H5, _⟩ := W4
  have n3 : d3.now = [(AA, zs h), (BB, [])] := D3.now
  -- what there is room for
  obtain ⟨q, hq⟩ : ∃ q : Nat, (q : Int) = imin (b : Int) n := ⟨(imin (b : Int) n).toNat, by simp only [imin]; split <;> omega⟩
  have hq2 : q ≤ b := by simp only [imin] at hq; split at hq <;> omega
  have lq := zs_len q
  have t5 : d3.total AA (zs h ++ zs q) = (h + q : Int) := by
    unfold Dsk.total
    rw [n3]
    show ad .i64 (ad .i64 (sb .i64 (Str.len (zs h ++ zs q)) (Str.len (zs h))) (Str.len (zs h))) (Str.len []) = _
    rw [Str.len_nat, Str.len_nat, Str.len_nat, List.length_append, la, lq, s3 (by omega) (by omega) (by omega) (by simp)]; simp
  obtain ⟨d4, e6, D4⟩ := write_go ⟨AA, zs q, false⟩ D3 t5 (by omega) (by omega)
  have W5 := append_dk (n := AA) (b := zs q) (x := zs h ++ zs q) hp5 H5 (by rw [D3.pend]; simp) (by rw [n3]; simp) (by rw [n3]; exact app_of (by simp [Mp.get?]; omega))
  rw [e6] at W5
  obtain ⟨S6, v6, o6, x6, h6, hp6, H6, _⟩ := W5
  -- the steps
  refine WC.seq (WC.drawC ?_)
  refine wk (.ptr i 0) rfl rfl rfl rfl (wk (.int .i64 (h : Int)) rfl rfl rfl rfl ?_)
  refine wk (.lst ((List.replicate h (0 : Int)).map (eI .u8)) .full) rfl (nz rfl (mk34 rfl rfl (by omega))) rfl rfl ?_
  refine wk (.str (zs h)) rfl (nz rfl (stp_text (x := some (List.replicate h (0 : Int))) rfl ⟨.full, rfl⟩ rfl rfl rfl)) rfl rfl ?_
  refine WK.turn rfl (nz rfl (stp_call rfl rfl h2)) rfl ⟨pend_nil, ?_⟩
  refine wk (.ptr i 0) rfl rfl rfl rfl (wk (.int .i64 (k : Int)) rfl rfl rfl rfl (wk (.int .i64 (h : Int)) rfl rfl rfl rfl ?_))
  refine wk (.int .i64 (b : Int)) rfl (nz rfl ?_) rfl rfl ?_
  · rw [← eb]; rfl
  refine wk (.lst ((List.replicate b (0 : Int)).map (eI .u8)) .full) rfl (nz rfl (mk34 rfl rfl (by omega))) rfl rfl ?_
  refine wk (.str (zs b)) rfl (nz rfl (stp_text (x := some (List.replicate b (0 : Int))) rfl ⟨.full, rfl⟩ rfl rfl rfl)) rfl rfl (WK.nil ?_)
  refine WO.step rfl (nz rfl (stp_call rfl rfl h3)) (us 2 rfl (WO.nil ?_))
  refine WC.reset (l := [(1, .int .u8 n), (5, .int .i64 (k : Int)), (6, .ptr i 0), (7, .int .i64 (h : Int)), (8, .int .i64 0), (9, .int .i64 0)]) (known_cons rfl (known_cons rfl (known_cons rfl (known_cons rfl (known_cons rfl (known_cons rfl known_nil)))))) fun σ3 => ?_
  refine WC.seqR (us 1 rfl ?_)
  refine WO.step rfl (nz rfl (stp_call rfl rfl h4)) (us 1 rfl (WO.nil ?_))
  refine WC.seqR (us 1 rfl ?_)
  refine WO.step rfl (nz rfl (stp_call rfl rfl h5)) (us 1 rfl (WO.nil ?_))
  refine WC.seqR (us 3 rfl ?_)
  refine WO.step (v := .int .i64 (b : Int)) rfl (nz rfl (by rw [← eb]; rfl)) (us 1 rfl ?_)
  have en : cv .i64 n = n := cv64 (by omega)
  refine WO.step (v := .int .i64 n) rfl (nz rfl (Eq.trans rfl (congrArg (fun z => some (PV.int .i64 z, S5, false)) en))) ?_
  refine WO.step (v := .int .i64 (q : Int)) rfl (nz rfl (by rw [hq]; rfl)) ?_
  refine WO.step rfl (nz rfl (mk34 rfl rfl (by omega))) ?_
  refine WO.step (v := .str (zs q)) rfl (nz rfl (stp_text (x := some (List.replicate q (0 : Int))) rfl ⟨.full, rfl⟩ rfl rfl rfl)) ?_
  refine WO.step rfl (nz rfl (stp_call rfl rfl h6)) (us 1 rfl (WO.nil ?_))
  refine WC.reset (l := [(8, .int .i64 0), (9, .int .i64 0), (10, .int .i64 21), (11, .int .i64 0), (12, .int .i64 0)]) (known_cons rfl (known_cons rfl (known_cons rfl (known_cons rfl (known_cons rfl known_nil))))) fun σ4 => ?_
  refine WC.seqR (us 19 rfl (WO.nil ?_))
  exact WC.ret (kr (.bool true) rfl rfl rfl)
theorem diskRooms_true (a0 a1 : Int) (o0 : (Lit.int .u16 a0).wf = true) (o1 : (Lit.int .u8 a1).wf = true) : evw env 6 [.int .u16 a0, .int .u8 a1] [] = some (.bool true, [], false) := by
  refine rooms_walk ?_ ?_
  · simp [Lit.wf, IntKind.min, IntKind.max, IntKind.signed, IntKind.bits] at o0
    omega
  · simp [Lit.wf, IntKind.min, IntKind.max, IntKind.signed, IntKind.bits] at o1
    omega
end Go.Proofs.Ytfpgfgpbjadoaaa.M
