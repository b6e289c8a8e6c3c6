/- DiskPuts: the walk, the law. -/
import Derived.Test.YtfpgfgpbjadoaaaDQ
import Derived.Test.YtfpgfgpbjadoaaaDDk
namespace Go.Proofs.Ytfpgfgpbjadoaaa.M
set_option linter.unusedVariables false
set_option linter.unusedSimpArgs false
open Go Go.Pam
set_option maxRecDepth 4000
theorem steps_dk {S S0 : List SObj} {R : List Nat} {C : List (Nat × SObj)} {A : List (PV × Nat)} {W : List (PV × SObj)} {i j1 j2 : Nat} {v : PV} {o : SObj} {d : Dsk} (H : DH S0 R S i j1 j2 v o d C A W) : evw env 14 [.ptr i 0] S = some (.int .i64 d.steps, S, false) := by
  refine evw_roW (pf := fn14) rfl rfl rfl rfl rfl (WB.of (pf := fn14) rfl ?_)
  refine WC.seqR (us 1 rfl (WO.nil ?_))
  refine WC.seqR (us 3 rfl ?_)
  refine Wg H 0 rfl (us 1 rfl (WO.nil ?_))
  exact WC.ret (Kr (.int .i64 d.steps) rfl ⟨rfl, rfl, rfl⟩)
theorem puts_walk {a b : Str} {kp : Int} {sy : Bool} : evw env 5 [.str a, .str b, .int .u64 kp, .bool sy] [] = some (.bool true, [], false) := by
  refine evw_pureW (bs := [.str a, .str b, .int .u64 kp, .bool sy]) (pf := fn5) rfl rfl rfl (Nat.le_of_ble_eq_true rfl) rfl rfl ?_
  refine WB.of (pf := fn5) rfl ?_
  refine WC.seqR (us 1 rfl (WO.nil ?_))
  refine WC.seq (WC.seqR ?_)
  refine WO.step (v := .bool true) rfl (nz rfl (stp_call (vs := []) rfl rfl (s7 0 (r := true) rfl rfl _))) (us 1 rfl (WO.nil ?_))
  refine WC.condF rfl rfl (WC.skip (KX.seq_n ?_))
  refine WC.reset (l := [(0, .str a), (1, .str b), (2, .int .u64 kp), (3, .bool sy)]) (known_cons rfl (known_cons rfl (known_cons rfl (known_cons rfl known_nil)))) fun σ1 => ?_
  have fin : ∀ {σ' : Nat → PV} {S : List SObj} {e : Bool}, σ' 8 = .bool true → KB env ⟨73, [.tmp 8], pc5, false⟩ (fun v' _ _ => v'.strip = .bool true) .ret σ' S e := fun {σ' S e} h => kr (.bool true) h rfl rfl
  -- the lengths
  refine WC.seq (WC.seqR (us 2 rfl ?_))
  refine WO.step (v := .bool (decide ((a.length : Int) > 200))) rfl (nz rfl rfl) (us 1 rfl ?_)
  by_cases n1 : a.length ≤ 200
  case neg =>
    rw [show decide ((a.length : Int) > 200) = true by simp; omega]
    refine us 4 rfl (WO.nil ?_)
    exact WC.condT rfl rfl (WC.seqR (us 1 rfl (WO.nil (WC.ret (KX.seq_r (fin rfl))))))
  rw [show decide ((a.length : Int) > 200) = false by simp; omega]
  refine us 2 rfl ?_
  refine WO.go0 (b := false) rfl rfl (WO.step (v := .bool (decide ((b.length : Int) > 200))) rfl (nz rfl rfl) (us 1 rfl (WO.nil ?_)))
  by_cases n2 : b.length ≤ 200
  case neg =>
    rw [show decide ((b.length : Int) > 200) = true by simp; omega]
    exact WC.condT rfl rfl (WC.seqR (us 1 rfl (WO.nil (WC.ret (KX.seq_r (fin rfl))))))
  rw [show decide ((b.length : Int) > 200) = false by simp; omega]
  refine WC.condF rfl rfl (WC.skip (KX.seq_n ?_))
  -- the disk
  have H := Hp.start []
  obtain ⟨S1, i, j1, j2, h1, hp, H⟩ := new_dk 1000 H
  have D : DIs ⟨imin (imax 1000 0) 1000000, [], [], [], 0, -1⟩ 1000 [] [] [] 0 := ⟨by decide, rfl, rfl, rfl, rfl, rfl⟩
  refine WC.seqR ?_
  refine WO.step rfl (nz rfl (stp_call rfl rfl h1)) (us 1 rfl (WO.nil ?_))
  generalize (⟨imin (imax 1000 0) 1000000, [], [], [], 0, -1⟩ : Dsk) = d0 at *
  refine WC.reset (l := [(0, .str a), (1, .str b), (2, .int .u64 kp), (3, .bool sy), (9, .ptr i 0)]) (known_cons rfl (known_cons rfl (known_cons rfl (known_cons rfl (known_cons rfl known_nil))))) fun σ2 => ?_
  -- put, synced, put
  obtain ⟨d1, e1, D1⟩ := write_is (n := FF) (s := []) (x := a) ⟨FF, a, true⟩ D (.inl ⟨rfl, rfl⟩) (by omega) (by omega) (by simp) (by omega)
  have W1 := put_dk (n := FF) (b := a) (by rw [D.pend]; exact hp) H (by rw [D.pend]; simp) (by rw [D.now]; simp)
  rw [e1] at W1
  obtain ⟨S2, v2, o2, x2, h2, hp2, H2, _⟩ := W1
  obtain ⟨d2, e2, D2⟩ := sync_is (s' := []) D1 (.inl ⟨rfl, rfl⟩) (by omega)
  have W2 := sync_dk (n := FF) hp2 H2 (by show d1.pend.length ≤ _; rw [D1.pend]; simp) (by show ∀ y ∈ d1.pend, _; rw [D1.pend]; simp)
  rw [e2] at W2
  obtain ⟨S3, v3, o3, x3, h3, hp3, H3, _⟩ := W2
  obtain ⟨d3, e3, D3⟩ := write_is (n := FF) (s := a) (x := b) ⟨FF, b, true⟩ D2 (.inr rfl) (by omega) (by omega) (by omega) (by omega)
  have W3 := put_dk (n := FF) (b := b) hp3 H3 (by show d2.pend.length ≤ _; rw [D2.pend]; simp) (by show d2.now.length ≤ _; rw [D2.now]; simp)
  rw [e3] at W3
  obtain ⟨S4, v4, o4, x4, h4, hp4, H4, _⟩ := W3
  refine WC.seq (WC.seqR (us 2 rfl ?_))
  refine WO.step (v := .int .i64 0) rfl (nz rfl (stp_call rfl rfl h2)) (us 3 rfl ?_)
  refine WO.go0 (b := false) rfl rfl (WO.step (v := .int .i64 0) rfl (nz rfl (stp_call rfl rfl h3)) (us 5 rfl ?_))
  refine WO.go0 (b := false) rfl rfl (WO.step (v := .int .i64 0) rfl (nz rfl (stp_call rfl rfl h4)) (us 2 rfl (WO.nil ?_)))
  refine WC.condF rfl rfl (WC.skip (KX.seq_n ?_))
  refine WC.reset (l := [(0, .str a), (1, .str b), (2, .int .u64 kp), (3, .bool sy), (9, .ptr i 0)]) (known_cons rfl (known_cons rfl (known_cons rfl (known_cons rfl (known_cons rfl known_nil))))) fun σ3 => ?_
  -- what is left to say: of a disk of these files, with this wanted
  have rest : ∀ {σ : Nat → PV} {S : List SObj} {e : Bool} {v : PV} {o : SObj} {d : Dsk} {now : Mp Str} {pend : List DOp} {k : Nat} {kept : Mp Str} {w : Str}, Known [(0, .str a), (1, .str b), (2, .int .u64 kp), (3, .bool sy), (9, .ptr i 0)] σ → DIs d 1000 kept now pend k →
      3 ≤ k → k < 100 → IsP d.pend v o → DH [] [] S i j1 j2 v o d [] [] [] → pend.length ≤ 1 → (∀ q, ((Mp.get? kept q).getD []).length + (pend.map (·.b.length)).sum ≤ 1000000000) → crashL kp pend 0 kept [] = [(FF, w)] → w = (if sy || (bAnd .u64 kp 1 == 1) then b else a) →
      WC env ⟨73, 0⟩ (.seq (.region [⟨some 45, .move (.tmp 9), none, false⟩,
    ⟨some 46, .move (.tmp 2), none, false⟩,
    ⟨some 47, .call ⟨.value (.func 11), #[.tmp 45, .tmp 46], #[25, 23]⟩, none, false⟩])
  (.seq (.region [⟨some 49, .move (.tmp 9), none, false⟩,
    ⟨some 50, .call ⟨.value (.func 12), #[.tmp 49, .const (.string ⟨#[102]⟩)], #[25, 9]⟩, none, false⟩,
    ⟨some 48, .move (.tmp 50), none, false⟩,
    ⟨some 51, .extract (.tmp 48) 0, none, false⟩,
    ⟨some 52, .extract (.tmp 48) 1, none, false⟩,
    ⟨some 10, .assign (.tmp 51), none, false⟩,
    ⟨some 11, .assign (.tmp 52), none, false⟩])
  (.seq (.region [⟨some 53, .move (.tmp 0), none, false⟩,
    ⟨some 12, .assign (.tmp 53), none, false⟩])
  (.seq (.seq (.region [⟨some 54, .move (.tmp 3), none, false⟩,
    ⟨some 55, .move (.tmp 54), none, false⟩,
    ⟨some 56, .move (.tmp 2), some (55, false), false⟩,
    ⟨some 57, .binOp .and 23 (.tmp 56) (.const (.int .u64 1)) 23, some (55, false), false⟩,
    ⟨some 58, .binOp .eql 23 (.tmp 57) (.const (.int .u64 1)) 23, some (55, false), false⟩,
    ⟨some 59, .pick (.tmp 55) (.const (.bool true)) (.tmp 58), none, false⟩])
  (.cond (.tmp 59)
    (.region [⟨some 60, .move (.tmp 1), none, false⟩,
      ⟨some 12, .assign (.tmp 60), none, false⟩])
    .skip))
  (.seq (.region [⟨some 61, .move (.tmp 11), none, false⟩,
    ⟨some 62, .binOp .eql 27 (.tmp 61) (.const (.int .i64 0)) 27, none, false⟩,
    ⟨some 63, .move (.tmp 62), none, false⟩,
    ⟨some 64, .move (.tmp 10), some (63, true), false⟩,
    ⟨some 65, .move (.tmp 12), some (63, true), false⟩,
    ⟨some 66, .binOp .eql 9 (.tmp 64) (.tmp 65) 9, some (63, true), false⟩,
    ⟨some 67, .pick (.tmp 63) (.tmp 66) (.const (.bool false)), none, false⟩,
    ⟨some 68, .move (.tmp 67), none, false⟩,
    ⟨some 69, .move (.tmp 9), some (68, true), false⟩,
    ⟨some 70, .call ⟨.value (.func 14), #[.tmp 69], #[25]⟩, some (68, true), false⟩,
    ⟨some 71, .binOp .geq 3 (.tmp 70) (.const (.int .i64 3)) 3, some (68, true), false⟩,
    ⟨some 72, .pick (.tmp 68) (.tmp 71) (.const (.bool false)), none, false⟩,
    ⟨some 8, .assign (.tmp 72), none, false⟩])
  .ret))))) σ S e (KB env ⟨73, [.tmp 8], pc5, false⟩ fun v' _ _ => v'.strip = .bool true) := by
    intro σ S e v o d now pend k kept w hk Dq k3 k4 hpq Hq hpl hb hc hw
    refine WC.reset hk fun σ0 => ?_
    have D5 := crash_room (keep := kp) Dq hc
    obtain ⟨S5, j5, h5, hp5, H5⟩ := crash_dk (keep := kp) hpq Hq (by rw [Dq.pend]; omega) (by rw [Dq.kept, Dq.pend]; exact hb)
    generalize d.crash kp = d5 at *
    refine WC.seqR (us 2 rfl ?_)
    refine WO.step rfl (nz rfl (stp_call rfl rfl h5)) (WO.nil ?_)
    have hr : d5.read FF = (w, 0) := by unfold Dsk.read; rw [D5.left, if_neg (by decide), D5.now, get_one]
    have h6 := read_dk (n := FF) H5
    rw [hr] at h6
    refine WC.seqR (us 1 rfl ?_)
    refine WO.step (v := .tup [.str w, .int .i64 0]) rfl (nz rfl (stp_call rfl rfl h6)) (us 5 rfl (WO.nil ?_))
    refine WC.reset (l := [(0, .str a), (1, .str b), (2, .int .u64 kp), (3, .bool sy), (9, .ptr i 0), (10, .str w), (11, .int .i64 0)]) (known_cons rfl (known_cons rfl (known_cons rfl (known_cons rfl (known_cons rfl (known_cons rfl (known_cons rfl known_nil))))))) fun σ4 => ?_
    refine WC.seqR (us 2 rfl (WO.nil ?_))
    have h7 := steps_dk H5
    rw [D5.steps] at h7
    refine WC.seqJ (fun σ' S' _ => Known [(9, .ptr i 0), (10, .str w), (11, .int .i64 0), (12, .str w)] σ' ∧ S' = S5) ?_ ?_
    · refine WC.seqR (us 2 rfl ?_)
      cases sy with
      | true =>
        refine us 4 rfl (WO.nil ?_)
        rw [Bool.true_or, if_pos rfl] at hw
        subst hw
        exact WC.condT rfl rfl (WC.region (us 2 rfl (WO.nil (KX.seq_n ⟨known_cons rfl (known_cons rfl (known_cons rfl (known_cons rfl known_nil))), rfl⟩))))
      | false =>
        refine us 2 rfl ?_
        rw [Bool.false_or] at hw
        refine WO.go0 (b := false) rfl rfl (WO.step (v := .bool (bAnd .u64 kp 1 == 1)) rfl (nz rfl rfl) (us 1 rfl (WO.nil ?_)))
        by_cases hbit : (bAnd .u64 kp 1 == 1) = true
        · rw [hbit, if_pos rfl] at hw
          subst hw
          exact WC.condT rfl hbit (WC.region (us 2 rfl (WO.nil (KX.seq_n ⟨known_cons rfl (known_cons rfl (known_cons rfl (known_cons rfl known_nil))), rfl⟩))))
        · have hbit : (bAnd .u64 kp 1 == 1) = false := by simpa using hbit
          rw [hbit, if_neg (by decide)] at hw
          subst hw
          exact WC.condF rfl hbit (WC.skip (KX.seq_n ⟨known_cons rfl (known_cons rfl (known_cons rfl (known_cons rfl known_nil))), rfl⟩))
    · rintro σ' S' e' ⟨hk', rfl⟩
      refine WC.reset hk' fun σ5 => ?_
      refine WC.seqR (us 5 rfl ?_)
      refine WO.go0 (b := true) rfl rfl (WO.step (v := .bool (w == w)) rfl (nz rfl rfl) ?_)
      rw [show (w == w) = true by simp]
      refine us 3 rfl ?_
      refine WO.go0 (b := true) rfl rfl (WO.step rfl (nz rfl (stp_call rfl rfl h7)) ?_)
      refine WO.go0 (b := true) rfl rfl (WO.step (v := .bool (decide ((k : Int) ≥ 3))) rfl (nz rfl rfl) ?_)
      rw [show decide ((k : Int) ≥ 3) = true by simp; omega]
      exact us 2 rfl (WO.nil (WC.ret (fin rfl)))
  have hbK : bitK kp 0 = (bAnd .u64 kp 1 == 1) := by
    unfold bitK
    rw [if_pos (by decide)]
    simp
  refine WC.seq (WC.seqR (us 2 rfl ?_))
  cases sy with
  | true =>
    obtain ⟨d4, e4, D4⟩ := sync_is (s' := a) D3 (.inr rfl) (by omega)
    have W4 := sync_dk (n := FF) hp4 H4 (by show d3.pend.length ≤ _; rw [D3.pend]; simp) (by show ∀ y ∈ d3.pend, _; rw [D3.pend]; simp)
    rw [e4] at W4
    obtain ⟨S5, v5, o5, x5, h5, hp5, H5, _⟩ := W4
    refine us 1 rfl ?_
    refine WO.go0 (b := true) rfl rfl (WO.step (v := .int .i64 0) rfl (nz rfl (stp_call rfl rfl h5)) (us 2 rfl (WO.nil ?_)))
    refine WC.condF rfl rfl (WC.skip (KX.seq_n ?_))
    exact rest (known_cons rfl (known_cons rfl (known_cons rfl (known_cons rfl (known_cons rfl known_nil))))) D4 (by omega) (by omega) hp5 H5 (by simp) (fun q => by simp only [Mp.get?]; split <;> simp <;> omega) rfl (by simp)
  | false =>
    refine us 4 rfl (WO.nil ?_)
    refine WC.condF rfl rfl (WC.skip (KX.seq_n ?_))
    refine rest (w := if (bAnd .u64 kp 1 == 1) then b else a) (known_cons rfl (known_cons rfl (known_cons rfl (known_cons rfl (known_cons rfl known_nil))))) D3 (by omega) (by omega) hp4 H4 (by simp) (fun q => by simp only [Mp.get?]; split <;> simp <;> omega) ?_ (by simp)
    show crash1 kp 0 ⟨FF, b, true⟩ [(FF, a)] false = _
    unfold crash1
    rw [if_neg (by decide), hbK]
    by_cases hbit : (bAnd .u64 kp 1 == 1) = true
    · rw [hbit]
      show (if (true && true) = true then _ else _) = _
      rw [put_one]
      rfl
    · have hbit : (bAnd .u64 kp 1 == 1) = false := by simpa using hbit
      rw [hbit]
      show (if (false && true) = true then _ else if false = true then _ else if (!true && _) = true then _ else _) = _
      rw [if_neg (by decide), if_neg (by decide), if_neg (by simp)]
      rfl
theorem diskPuts_true (a0 a1 : Str) (a2 : Int) (a3 : Bool) (_ : a0.length ≤ maxLen) (_ : a1.length ≤ maxLen) (_ : (Lit.int .u64 a2).wf = true) (_ : True) : evw env 5 [.str a0, .str a1, .int .u64 a2, .bool a3] [] = some (.bool true, [], false) := puts_walk
end Go.Proofs.Ytfpgfgpbjadoaaa.M
