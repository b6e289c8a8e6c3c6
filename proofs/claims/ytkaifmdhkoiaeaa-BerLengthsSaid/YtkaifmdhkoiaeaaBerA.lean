/- Part of the proof: the runs of functions on the abstract machine. -/
import Derived.Test.YtkaifmdhkoiaeaaFns
import Derived.Test.YtkaifmdhkoiaeaaPam21
namespace Go.Proofs.Ytkaifmdhkoiaeaa.M
open Go Go.Pam
def env : Env := ⟨ctx, fnOf, fun _ => none⟩

/-- A byte as a number. -/
def nat (b : UInt8) : Int := b.toNat

theorem nat_and31 (a : UInt8) : real.bits .and .u8 (nat a) 31 = nat (a &&& 31) := by
  have h : (IntKind.u8.wrap ((a.toNat &&& 31 : Nat) : Int)) = ((a.toNat &&& 31 : Nat) : Int) := IntWalk.u8_in _ (by
    have := Nat.and_le_right (n := a.toNat) (m := 31)
    omega)
  simp [real, nat, IntKind.bits]
  rw [← h]
  congr 1

/-- One more byte behind a number. -/
def shl8 (n : Int) (b : UInt8) : Int := IntKind.i64.wrap (BitVec.ofInt IntKind.i64.bits (IntKind.i64.wrap (n * 2 ^ (min (8 : Int).toNat IntKind.i64.bits))) ||| BitVec.ofInt IntKind.i64.bits (nat b)).toNat

theorem shl8_real (n : Int) (b : UInt8) : real.bits .or .i64 (real.shl .i64 n 8) (real.conv .i64 (nat b)) = shl8 n b := by
  have h : real.conv .i64 (nat b) = nat b := IntWalk.i64_in _ (by have := b.toNat_lt; unfold nat; omega)
  rw [h]; rfl

def HeadS : List UInt8 → Int × Int × Int
  | [] => (0, 0, 10)
  | [a] => if nat (a &&& 31) = 31 then (0, 0, 14) else (0, 0, 10)
  | a :: b :: r =>
    if nat (a &&& 31) = 31 then (0, 0, 14)
    else if nat b = 128 ∨ 132 < nat b then (0, 0, 11)
    else if 128 < nat b then
      if (r.length : Int) < nat b - 128 then (0, 0, 10)
      else if 4000 < (r.take (nat b - 128).toNat).foldl shl8 0 then (0, 0, 13)
      else (2 + (nat b - 128), (r.take (nat b - 128).toNat).foldl shl8 0, 0)
    else (2, nat b, 0)

def enc3 (x : Int × Int × Int) : PV := .tup [.int .i64 x.1, .int .i64 x.2.1, .int .i64 x.2.2]

theorem nat_lt (b : UInt8) : 0 ≤ nat b ∧ nat b < 256 := by
  unfold nat
  have := b.toNat_lt
  omega

set_option maxHeartbeats 1000000 in
theorem f13 (s : List UInt8) (S : List SObj) (hs : s.length < 2 ^ 62) : evw env 13 [.str s] S = some (enc3 (HeadS s), S, false) := by
  generalize hR : HeadS s = R
  refine evw_pureK (pf := fn13) (bs := [.str s]) rfl rfl rfl (Nat.le_of_ble_eq_true rfl) (by rfl) rfl rfl ?_
  rintro ⟨add, sub, mul, quo, rem, bits, shl, shr, conv, lt, le, eq, mn, mx, slen, seq, slt, sapp, sfits, sin, sat, ssubOk, ssub, sbytes, llen, lnum, lin, lat, lall, lsub, lapp, lemp, lsized, lfits, lhw, ltext, rep, repOk, mul2, nin, nsub, sfit2, lsum, tipOk, sn, sget, sset, spush, same, esc, or, nlen, ne, sne, sle, sgt, sge, loop⟩ LP cp ho hcp hlp
  have st : Stor sn sget sset spush same := real_stor ho
  have hadd : add = real.add := congrArg Prim.add ho
  have hsub : sub = real.sub := congrArg Prim.sub ho
  have hbits : bits = real.bits := congrArg Prim.bits ho
  have hshl : shl = real.shl := congrArg Prim.shl ho
  have hconv : conv = real.conv := congrArg Prim.conv ho
  have hlt : lt = real.lt := congrArg Prim.lt ho
  have heq : eq = real.eq := congrArg Prim.eq ho
  have hslen : slen = real.slen := congrArg Prim.slen ho
  have hseq : seq = real.seq := congrArg Prim.seq ho
  have hsin : sin = real.sin := congrArg Prim.sin ho
  have hsat : sat = real.sat := congrArg Prim.sat ho
  have hssubOk : ssubOk = real.ssubOk := congrArg Prim.ssubOk ho
  have hssub : ssub = real.ssub := congrArg Prim.ssub ho
  have hsbytes : sbytes = real.sbytes := congrArg Prim.sbytes ho
  have hllen : llen = real.llen := congrArg Prim.llen ho
  have hlin : lin = real.lin := congrArg Prim.lin ho
  have hlat : lat = real.lat := congrArg Prim.lat ho
  have hlp4 := @hlp (4, pc13L4) (.head _)
  clear hlp hcp
  dsimp only at hlp4
  have L4 : ∀ (n : Int) (bs : List UInt8) (tag : Tag), (bs.length : Int) = n → n < 100 → ∀ (done rest : List UInt8), done ++ rest = bs → ∀ acc σ S e K,
      Known [(42, .lst (bs.map fun b => .int .u8 b.toNat) tag), (43, .int .i64 n), (44, .int .i64 done.length), (5, .int .i64 acc)] σ →
      (∀ σ' S' e', Known [(5, .int .i64 (rest.foldl shl8 acc)), (6, σ 6)] σ' → K (.exit 4) σ' S' e') → LP 4 σ S e K := by
    intro n bs tag hn hn' done rest
    induction rest generalizing done with
    | nil =>
      intro hd acc σ S e K hk k1
      have h6 : σ 6 = σ 6 := rfl
      generalize hv6 : σ 6 = v6 at k1 h6
      rw [← put_known (known_cons hv6 hk)]
      apply hlp4
      have h0 : lt (done.length : Int) n = false := by
        rw [hlt]; simp only [real]; subst hn; rw [← hd]; simp
      generalize (done.length : Int) = dl at h0
      generalize bs.map _ = xs
      simp only [List.foldl_nil] at k1
      clear ho hlp4 hk hv6 h6
      cbv
      simp only [h0]
      cbv
      exact k1 _ _ _ (known_cons rfl (known_cons rfl known_nil))
    | cons b rest ih =>
      intro hd acc σ S e K hk k1
      have h6 : σ 6 = σ 6 := rfl
      generalize hv6 : σ 6 = v6 at k1 h6
      rw [← put_known (known_cons hv6 hk)]
      apply hlp4
      have hlen : (done.length : Int) < n := by subst hn; rw [← hd]; simp; omega
      have h0 : lt (done.length : Int) n = true := by rw [hlt]; simpa [real] using hlen
      have a1 : lin (bs.map fun b => PV.int .u8 b.toNat) (done.length : Int) = true := by
        rw [hlin]; simp only [real]; subst hn; simp; omega
      have a2 : lat (bs.map fun b => PV.int .u8 b.toNat) (done.length : Int) = .int .u8 (nat b) := by
        rw [hlat]; simp only [real]; rw [← hd]; simp [List.getD, nat]
      have a3 : bits .or .i64 (shl .i64 acc 8) (conv .i64 (nat b)) = shl8 acc b := by rw [hbits, hshl, hconv]; exact shl8_real acc b
      have a4 : add .i64 (done.length : Int) 1 = ((done ++ [b]).length : Int) := by
        rw [hadd]; simp only [real]; rw [IntWalk.i64_in _ (by omega)]; simp
      have a5 : lt 8 0 = false := by rw [hlt]; rfl
      have ih := ih (done ++ [b]) (by simpa using hd) (shl8 acc b)
      generalize hdl1 : ((done ++ [b]).length : Int) = dl1 at ih a4
      generalize hdl : (done.length : Int) = dl at h0 a1 a2 a4
      generalize hxs : (bs.map fun b => PV.int .u8 b.toNat) = xs at a1 a2 ih
      simp only [List.foldl_cons] at k1
      generalize hnb : nat b = nb at a2 a3
      generalize hacc : shl8 acc b = acc1 at a3 ih k1
      generalize List.foldl shl8 acc1 rest = fin at ih k1
      clear hk hv6 h6 hacc hdl hdl1 hd hxs hnb
      cbv
      simp only [h0]
      cbv
      refine ⟨a1, [.int .u8 nb], by exact congrArg PV.cells a2, rfl, ?_⟩
      cbv
      refine ⟨a5, ?_⟩
      cbv
      refine ih _ _ _ _ (known_cons rfl (known_cons rfl (known_cons (congrArg (PV.int .i64) a4) (known_cons (congrArg (PV.int .i64) a3) known_nil)))) k1
  match s, hs, hR with
  | [], hs, hR =>
    have F1 : seq [] [] = true := by rw [hseq]; rfl
    clear L4 hlp4 ho
    cbv
    simp only [F1]
    cbv
    rw [← hR]
    rfl
  | [a], hs, hR =>
    have F1 : seq [a] [] = false := by rw [hseq]; rfl
    have F2 : sin [a] 0 = true := by rw [hsin]; rfl
    have F3 : sat [a] 0 = nat a := by rw [hsat]; rfl
    have F4 : bits .and .u8 (nat a) 31 = nat (a &&& 31) := by rw [hbits]; exact nat_and31 a
    have F5 : eq (slen [a]) 1 = true := by rw [heq, hslen]; rfl
    have F6 : eq (nat (a &&& 31)) 31 = decide (nat (a &&& 31) = 31) := by rw [heq]; rfl
    generalize [a] = s at F1 F2 F3 F5
    simp only [HeadS] at hR
    generalize nat (a &&& 31) = na at *
    generalize nat a = na' at *
    clear L4 hlp4 ho
    cbv
    repeat' (first
      | (simp only [F1, F3, F4, F5]; cbv)
      | (refine ⟨F2, ?_⟩; cbv)
      | (refine ifK (fun h => ?_) (fun h => ?_) <;> (try simp only [h]) <;> cbv))
    all_goals (rw [F6] at h; rw [← hR]; simp at h; simp [h, enc3])
  | a :: b :: r, hs, hR =>
    have F1 : seq (a :: b :: r) [] = false := by rw [hseq]; rfl
    have F2 : sin (a :: b :: r) 0 = true := by rw [hsin]; simp [real]; omega
    have F3 : sat (a :: b :: r) 0 = nat a := by rw [hsat]; rfl
    have F4 : bits .and .u8 (nat a) 31 = nat (a &&& 31) := by rw [hbits]; exact nat_and31 a
    obtain ⟨n, hn⟩ : ∃ n : Int, n = r.length + 2 := ⟨_, rfl⟩
    have F5 : slen (a :: b :: r) = n := by rw [hslen, hn]; simp [real]; omega
    have F6 : eq n 1 = false := by rw [heq, hn]; simp [real]; omega
    have F7 : sin (a :: b :: r) 1 = true := by rw [hsin]; simp [real]; omega
    have F8 : sat (a :: b :: r) 1 = nat b := by rw [hsat]; rfl
    have nb := nat_lt b
    have F9 : conv .i64 (nat b) = nat b := by rw [hconv]; exact IntWalk.i64_in _ (by omega)
    obtain ⟨k, hk⟩ : ∃ k : Int, k = nat b - 128 := ⟨_, rfl⟩
    have F10 : sub .i64 (nat b) 128 = k := by rw [hsub, hk]; exact IntWalk.i64_in _ (by omega)
    obtain ⟨k2, hk2⟩ : ∃ k2 : Int, k2 = 2 + k := ⟨_, rfl⟩
    have F11 : add .i64 2 k = k2 := by rw [hadd, hk2]; exact IntWalk.i64_in _ (by omega)
    have F12 : lt 128 (nat b) = true → lt n k2 = false → ssubOk 2 k2 n = true := by
      rw [hlt, hssubOk]; simp [real]; omega
    have F13 : lt 128 (nat b) = true → lt n k2 = false → sbytes (ssub (a :: b :: r) 2 k2) = (r.take k.toNat).map fun b => PV.int .u8 b.toNat := by
      rw [hlt, hsbytes, hssub]; simp only [real, decide_eq_true_eq, decide_eq_false_iff_not]
      intro h1 h2
      have : k2.toNat = k.toNat + 2 := by omega
      rw [this]
      rfl
    have F14 : lt 128 (nat b) = true → lt n k2 = false → llen (sbytes (ssub (a :: b :: r) 2 k2)) = k := by
      intro h1 h2
      rw [F13 h1 h2, hllen]
      rw [hlt] at h1 h2
      simp only [real, decide_eq_true_eq, decide_eq_false_iff_not] at h1 h2 ⊢
      simp; omega
    have F15 : lt 128 (nat b) = true → lt n k2 = false → ((r.take k.toNat).length : Int) = k := by
      intro h1 h2
      rw [hlt] at h1 h2
      simp only [real, decide_eq_true_eq, decide_eq_false_iff_not] at h1 h2
      simp; omega
    have L := L4 k (r.take k.toNat) (.tip (sn []))
    have F16 : lt 4000 (nat b) = false := by rw [hlt]; simp [real]; omega
    have F17 : add .i64 2 0 = 2 := by rw [hadd]; rfl
    have hltR : ∀ x y, lt x y = decide (x < y) := by rw [hlt]; intro x y; rfl
    have heqR : ∀ x y, eq x y = (x == y) := by rw [heq]; intro x y; rfl
    simp only [HeadS] at hR
    rw [← hk, ← hk2] at hR
    generalize hsz : a :: b :: r = s at F1 F2 F3 F5 F7 F8 F13 F14
    generalize hfold : List.foldl shl8 0 (List.take k.toNat r) = fold at hR L
    generalize List.take k.toNat r = bs at *
    generalize hna : nat (a &&& 31) = na at *
    generalize hnb : nat b = nb at *
    generalize nat a = na' at *
    clear L4 hlp4 ho hadd hsub hbits hshl hconv hlt heq hslen hseq hsin hsat hssubOk hssub hsbytes hllen hlin hlat
    cbv
    simp only [F1]
    cbv
    refine ⟨F2, ?_⟩
    cbv
    simp only [F3, F4]
    cbv
    refine ifK (fun h1 => ?_) (fun h1 => ?_) <;> simp only [h1] <;> cbv
    · rw [heqR] at h1; rw [← hR]; simp at h1; simp [h1, enc3]
    simp only [F5, F6]
    cbv
    refine ⟨F7, ?_⟩
    cbv
    simp only [F8, F9]
    cbv
    refine ifK (fun h2 => ?_) (fun h2 => ?_) <;> simp only [h2] <;> cbv
    · rw [heqR] at h1 h2; rw [← hR]; simp at h1 h2; simp [h1, h2, enc3]
    refine ifK (fun h3 => ?_) (fun h3 => ?_) <;> simp only [h3] <;> cbv
    · rw [heqR] at h1 h2; rw [hltR] at h3; rw [← hR]; simp at h1 h2 h3; simp [h1, h2, h3, enc3]
    refine ifK (fun h4 => ?_) (fun h4 => ?_) <;> simp only [h4] <;> cbv
    · simp only [F10, F11, F5]
      cbv
      refine ifK (fun h5 => ?_) (fun h5 => ?_) <;> simp only [h5] <;> cbv
      · rw [heqR] at h1 h2; rw [hltR] at h3 h4 h5; rw [← hR]
        simp only [beq_eq_false_iff_ne, ne_eq, decide_eq_true_eq, decide_eq_false_iff_not] at h1 h2 h3 h4 h5
        rw [if_neg h1, if_neg (by omega), if_pos h4, if_pos (by omega)]
      simp only [F11, F5]
      refine ⟨F12 h4 h5, ?_⟩
      cbv
      have F14 := F14 h4 h5
      rw [F13 h4 h5] at F14
      simp only [F11, F13 h4 h5]
      refine L (F15 h4 h5) (by rw [hltR] at h3; simp at h3; omega) [] bs rfl 0 _ _ _ _ (known_cons rfl (known_cons (congrArg (PV.int .i64) F14) (known_cons rfl (known_cons rfl known_nil)))) ?_
      intro σ' S' e' hk'
      have g5 : σ' 5 = .int .i64 fold := by rw [← hfold]; exact hk' (5, _) (.head _)
      have g6 : σ' 6 = .int .i64 k := hk' (6, _) (.tail _ (.head _))
      clear hk' L hfold
      cbv
      simp only [g5]
      cbv
      refine ifK (fun h6 => ?_) (fun h6 => ?_) <;> simp only [h6] <;> cbv
      · rw [heqR] at h1 h2; rw [hltR] at h3 h4 h5 h6; rw [← hR]
        simp only [beq_eq_false_iff_ne, ne_eq, decide_eq_true_eq, decide_eq_false_iff_not] at h1 h2 h3 h4 h5 h6
        rw [if_neg h1, if_neg (by omega), if_pos h4, if_neg (by omega), if_pos h6]
      · simp only [g5, g6]
        cbv
        simp only [F11]
        rw [heqR] at h1 h2; rw [hltR] at h3 h4 h5 h6; rw [← hR]
        simp only [beq_eq_false_iff_ne, ne_eq, decide_eq_true_eq, decide_eq_false_iff_not] at h1 h2 h3 h4 h5 h6
        rw [if_neg h1, if_neg (by omega), if_pos h4, if_neg (by omega), if_neg h6]
        simp only [g5]
    · simp only [F16]
      cbv
      simp only [F17]
      rw [heqR] at h1 h2; rw [hltR] at h3 h4; rw [← hR]
      simp only [beq_eq_false_iff_ne, ne_eq, decide_eq_true_eq, decide_eq_false_iff_not] at h1 h2 h3 h4
      rw [if_neg h1, if_neg (by omega), if_neg h4]
end Go.Proofs.Ytkaifmdhkoiaeaa.M
