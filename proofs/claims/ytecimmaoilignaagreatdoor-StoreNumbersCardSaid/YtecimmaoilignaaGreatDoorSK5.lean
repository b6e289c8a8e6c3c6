/- The log's functions walked: Write, Renew, Open. -/
import Derived.Test.YtecimmaoilignaaGreatDoorSK3
import Derived.Test.YtecimmaoilignaaGreatDoorSDb
import Derived.Test.YtecimmaoilignaaGreatDoorSDs
namespace Go.Proofs.YtecimmaoilignaaGreatDoor.M.L
set_option linter.unusedVariables false
set_option linter.unusedSimpArgs false
open Go Go.Pam
set_option maxRecDepth 4000
def Dsk.wal (d : Dsk) (n p : Str) : Dsk × Int :=
  if (d.write n ((Mp.get? d.now n).getD [] ++ p) ⟨n, p, false⟩).2 != 0 then d.write n ((Mp.get? d.now n).getD [] ++ p) ⟨n, p, false⟩
  else (d.write n ((Mp.get? d.now n).getD [] ++ p) ⟨n, p, false⟩).1.sync n
theorem write_pend {d : Dsk} {n b : Str} {y : DOp} (hl : d.pend.length < 1000000) (hn : ∀ z ∈ d.pend, z.name = n) (hy : y.name = n) : (d.write n b y).1.pend.length ≤ 1000000 ∧ ∀ z ∈ (d.write n b y).1.pend, z.name = n := by
  unfold Dsk.write
  split
  · exact ⟨Nat.le_of_lt hl, hn⟩
  split
  · exact ⟨Nat.le_of_lt hl, hn⟩
  · refine ⟨by simp [Dsk.step]; omega, fun z hz => ?_⟩
    simp only [Dsk.step, List.mem_append, List.mem_singleton] at hz
    rcases hz with hz | rfl
    · exact hn z hz
    · exact hy
section
variable {S S0 : List SObj} {R : List Nat} {C : List (Nat × SObj)} {A : List (PV × Nat)} {W : List (PV × SObj)} {i j1 j2 : Nat} {v : PV} {o : SObj} {d d' : Dsk}
theorem wal_dk {n p : Str} {k : Nat} {l : Sl Str} {lv : PV} (hp : IsP d.pend v o) (H : DH S0 R S i j1 j2 v o d C A W) (hl : d.pend.length < 1000000) (hnow : d.now.length ≤ 1) (hn : ∀ y ∈ d.pend, y.name = n)
    (hlv : IsSl eS l lv) (hs : lv.strip = encSl eS l) (hF : F49 k l = some p) (hx : ((Mp.get? d.now n).getD []).length + p.length < 1000000000) :
    DR 62 [.ptr i 0, .str n, lv] (.int .i64 (d.wal n p).2) S0 R S i j1 j2 v (d.wal n p).1 C A W := by
  refine DR.of (pf := fn62) rfl rfl rfl rfl rfl H (WB.of (pf := fn62) rfl ?_)
  refine WC.seqR (us 1 rfl (WO.nil ?_))
  refine WC.seq (WC.seqR (us 3 rfl ?_))
  refine WO.step (v := .str p) rfl (nz (fz_tmp' hlv.frz rfl) (stp_call (vs := [lv]) rfl rfl (s49 k hF (by simp only [List.map_cons, List.map_nil, hs]) _))) ?_
  obtain ⟨S1, v1, o1, e1, h1, hp1, H1, he1⟩ := append_dk (n := n) (b := p) hp H (by omega) hnow (Str.app?_ok (by omega))
  refine WO.step rfl (nz rfl (stp_call rfl rfl h1)) (us 1 rfl (WO.nil ?_))
  refine WC.seqR (us 2 rfl (WO.nil ?_))
  unfold Dsk.wal
  obtain ⟨w1, w2⟩ := write_pend (b := (Mp.get? d.now n).getD [] ++ p) (y := ⟨n, p, false⟩) hl hn rfl
  generalize d.write n ((Mp.get? d.now n).getD [] ++ p) ⟨n, p, false⟩ = q at *
  by_cases hc : (q.2 != 0) = true
  · refine WC.condT (t := q.2 != 0) rfl hc (WC.seqR (us 2 rfl (WO.nil ?_)))
    rw [if_pos hc]
    exact WC.ret (KX.seq_r (Kr (.int .i64 q.2) rfl ⟨rfl, v1, o1, hp1, H1, by simpa using he1⟩))
  · have hc' : (q.2 != 0) = false := by simpa using hc
    refine WC.condF (t := q.2 != 0) rfl hc' (WC.skip (KX.seq_n ?_))
    rw [if_neg hc]
    refine WC.seqR (us 2 rfl ?_)
    obtain ⟨S2, v2, o2, e2, h2, hp2, H2, he2⟩ := sync_dk (n := n) hp1 H1 w1 w2
    refine WO.step rfl (nz rfl (stp_call rfl rfl h2)) (us 1 rfl (WO.nil ?_))
    refine WC.ret (Kr _ rfl ⟨rfl, v2, o2, hp2, H2, ?_⟩)
    rcases he2 with he2 | he2
    · left; rw [he2]; simp
    · rcases he1 with he1 | he1
      · left; rw [he1]; simp
      · right; rw [he2, he1]
theorem tupX (X : Sl Str) : ((PV.tup [encSl eS X, .int .i64 0]).strip, (PV.tup [encSl eS X, .int .i64 0]).clean) = (PV.tup [encSl eS X, .int .i64 0], true) := by
  refine Prod.ext ?_ ?_
  · simp only [st_tup, st2_int, strip2_enc, List.map_cons, List.map_nil]
  · simp [PV.clean, cleanL, clean_encSl clean_eS]
/-- A log that is whole, or whose end is cut off. -/
theorem open_dk {n s : Str} {k m : Nat} {X : Sl Str} (hp : IsP d.pend v o) (H : DH S0 R S i j1 j2 v o d C A W) (hl : d.pend.length < 1000000) (hnow : d.now.length ≤ 1) (hn : ∀ y ∈ d.pend, y.name = n)
    (h0 : (d.left == 0) = false) (hg : Mp.get? d.now n = some s) (hF : F64 k s = some (X, (m : Int), 0)) (hm : m ≤ s.length)
    (hd : if m < s.length then (d.write n (s.take m) ⟨n, s.take m, true⟩).2 = 0 ∧ ((d.write n (s.take m) ⟨n, s.take m, true⟩).1.sync n).2 = 0 ∧ d' = ((d.write n (s.take m) ⟨n, s.take m, true⟩).1.sync n).1 else d' = d) :
    DR 28 [.ptr i 0, .str n] (.tup [encSl eS X, .int .i64 0]) S0 R S i j1 j2 v d' C A W := by
  have hr : d.read n = (s, 0) := by unfold Dsk.read; rw [h0, if_neg (by decide), hg]
  refine DR.of (pf := fn28) rfl rfl rfl rfl (tupX X) H (WB.of (pf := fn28) rfl ?_)
  refine WC.seqR (us 2 rfl (WO.nil ?_))
  refine WC.seqR (us 2 rfl ?_)
  have h1 := read_dk (n := n) H
  rw [hr] at h1
  refine WO.step rfl (nz rfl (stp_call rfl rfl h1)) (us 5 rfl (WO.nil ?_))
  refine WC.reset (l := [(0, .ptr i 0), (1, .str n), (6, .str s), (7, .int .i64 0)]) (known_cons rfl (known_cons rfl (known_cons rfl (known_cons rfl known_nil)))) fun σ1 => ?_
  refine WC.seq (WC.block (WC.seqR (us 3 rfl ?_)))
  refine WO.step (v := .bool false) rfl (nz rfl (stp_call rfl rfl (evw_isFltI rfl 0 23 _))) (us 1 rfl (WO.nil ?_))
  refine WC.condF rfl rfl (WC.seqR (us 3 rfl (WO.nil ?_)))
  refine WC.condF rfl rfl (WC.skip (KX.block_n (KX.seq_n ?_)))
  refine WC.seqR (us 1 rfl ?_)
  refine WO.step (v := .tup [encSl eS X, .int .i64 (m : Int), .int .i64 0]) rfl (nz rfl (stp_call (vs := [.str s]) rfl rfl (s64 k hF rfl _))) (us 7 rfl (WO.nil ?_))
  refine WC.reset (l := [(0, .ptr i 0), (1, .str n), (6, .str s), (7, .int .i64 0), (8, encSl eS X), (9, .int .i64 (m : Int))]) (known_cons rfl (known_cons rfl (known_cons rfl (known_cons rfl (known_cons rfl (known_cons rfl known_nil)))))) fun σ2 => ?_
  refine WC.seq (WC.seqR (us 2 rfl (WO.nil ?_)))
  refine WC.condF rfl rfl (WC.skip (KX.seq_n ?_))
  refine WC.seq (WC.seqR (us 4 rfl (WO.nil ?_)))
  by_cases hc : m < s.length
  · rw [if_pos hc] at hd
    obtain ⟨d1, d2, rfl⟩ := hd
    refine WC.condT (t := decide ((m : Int) < (s.length : Int))) rfl (by simp; omega) ?_
    refine WC.seq (WC.seqR (us 4 rfl ?_))
    have e2 : Str.sub? s 0 (m : Int) = some (s.take m) := by
      have := Str.sub?_nat (s := s) (l := 0) (h := m) (by omega) (by omega)
      simpa using this
    refine WO.step rfl (nz rfl (stp_subStr rfl rfl rfl rfl e2)) ?_
    obtain ⟨S1, v1, o1, e1, h1, hp1, H1, he1⟩ := put_dk (n := n) (b := s.take m) hp H (by omega) hnow
    obtain ⟨w1, w2⟩ := write_pend (b := s.take m) (y := ⟨n, s.take m, true⟩) hl hn rfl
    generalize d.write n (s.take m) ⟨n, s.take m, true⟩ = q at *
    rw [d1] at h1
    refine WO.step rfl (nz rfl (stp_call rfl rfl h1)) (us 1 rfl (WO.nil ?_))
    refine WC.reset (l := [(0, .ptr i 0), (1, .str n), (8, encSl eS X), (10, .int .i64 0)]) (known_cons rfl (known_cons rfl (known_cons rfl (known_cons rfl known_nil)))) fun σ3 => ?_
    refine WC.seqR (us 2 rfl (WO.nil ?_))
    refine WC.condF rfl rfl (WC.skip (KX.seq_n ?_))
    refine WC.seqR (us 2 rfl ?_)
    obtain ⟨S2, v2, o2, e2', h2, hp2, H2, he2⟩ := sync_dk (n := n) hp1 H1 w1 w2
    rw [d2] at h2
    refine WO.step rfl (nz rfl (stp_call rfl rfl h2)) (us 1 rfl (WO.nil ?_))
    refine WC.seqR (us 2 rfl (WO.nil ?_))
    refine WC.condF rfl rfl (WC.skip (KX.seq_n ?_))
    refine WC.seqR (us 3 rfl (WO.nil ?_))
    refine WC.ret (KB.ret (vs := [encSl eS X, .int .i64 0]) rfl (fl_cons' (isSl_enc _ _).frz (fl_cons' rfl rfl)) ⟨rfl, v2, o2, hp2, H2, ?_⟩)
    rcases he2 with he2 | he2
    · left; rw [he2]; simp
    · rcases he1 with he1 | he1
      · left; rw [he1]; simp
      · right; rw [he2, he1]
  · rw [if_neg hc] at hd
    subst hd
    refine WC.condF (t := decide ((m : Int) < (s.length : Int))) rfl (by simp; omega) (WC.skip (KX.seq_n ?_))
    refine WC.seqR (us 3 rfl (WO.nil ?_))
    exact WC.ret (KB.ret (vs := [encSl eS X, .int .i64 0]) rfl (fl_cons' (isSl_enc _ _).frz (fl_cons' rfl rfl)) ⟨rfl, v, o, hp, H, .inr rfl⟩)
end
end Go.Proofs.YtecimmaoilignaaGreatDoor.M.L
