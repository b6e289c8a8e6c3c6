/- Part of the proof: the runs of functions on the abstract machine. -/
import Derived.Test.YtkaifmdhkoiaeaaBerA
import Derived.Test.YtkaifmdhkoiaeaaPam22
namespace Go.Proofs.Ytkaifmdhkoiaeaa.M
open Go Go.Pam

theorem f10 (S : List SObj) : evw env 10 [] S = some (.bool true, S, false) := by
  refine lim_of 40 fun k hk => ?_
  obtain ⟨j, rfl⟩ : ∃ j, k = j + 40 := ⟨k - 40, by omega⟩
  rfl

/-- A number as a byte. -/
def bt (n : Int) : UInt8 := UInt8.ofNat n.toNat

theorem nat_bt {n : Int} (h : 0 ≤ n ∧ n < 256) : nat (bt n) = n := by
  unfold nat bt
  rw [UInt8.toNat_ofNat']
  omega

theorem even31 (x : Int) : nat (bt (real.bits .and .u8 x 254) &&& 31) ≠ 31 := by
  have h : ∀ v : Fin 256, (UInt8.ofNat (v.val &&& 254) &&& 31) ≠ 31 := by decide +kernel
  intro he
  have hv := h ⟨(BitVec.ofInt 8 x).toNat, (BitVec.ofInt 8 x).isLt⟩
  apply hv
  have h1 : real.bits .and .u8 x 254 = (((BitVec.ofInt 8 x).toNat &&& 254 : Nat) : Int) := by
    have h3 : (BitVec.ofInt 8 x &&& BitVec.ofInt 8 254).toNat = (BitVec.ofInt 8 x).toNat &&& 254 := by rw [BitVec.toNat_and]; rfl
    show IntKind.u8.wrap (((BitVec.ofInt 8 x &&& BitVec.ofInt 8 254).toNat : Nat) : Int) = _
    rw [h3]
    exact IntWalk.u8_in _ (by
      have := Nat.and_le_right (n := (BitVec.ofInt 8 x).toNat) (m := 254)
      omega)
  rw [h1] at he
  apply UInt8.toNat_inj.1
  have h2 : bt ((((BitVec.ofInt 8 x).toNat &&& 254 : Nat) : Int)) = UInt8.ofNat ((BitVec.ofInt 8 x).toNat &&& 254) := rfl
  rw [h2] at he
  unfold nat at he
  show (UInt8.ofNat _ &&& 31).toNat = 31
  exact Int.ofNat.inj he

theorem shl8_small {n : Int} (b : UInt8) (h : 0 ≤ n ∧ n < 2 ^ 40) : shl8 n b = n * 256 + nat b := by
  obtain ⟨m, rfl⟩ : ∃ m : Nat, n = m := ⟨n.toNat, by omega⟩
  have hb := b.toNat_lt
  have h1 : IntKind.i64.wrap ((m : Int) * 2 ^ (min (8 : Int).toNat IntKind.i64.bits)) = ((2 ^ 8 * m : Nat) : Int) := by
    have : ((m : Int) * 2 ^ (min (8 : Int).toNat IntKind.i64.bits)) = ((2 ^ 8 * m : Nat) : Int) := by
      have : (2 : Int) ^ (min (8 : Int).toNat IntKind.i64.bits) = 256 := by decide
      rw [this]; omega
    rw [this]
    exact IntWalk.i64_in _ (by omega)
  unfold shl8
  rw [h1]
  have h2 : (BitVec.ofInt IntKind.i64.bits ((2 ^ 8 * m : Nat) : Int) ||| BitVec.ofInt IntKind.i64.bits (nat b)).toNat = 2 ^ 8 * m + b.toNat := by
    rw [BitVec.toNat_or]
    have e1 : (BitVec.ofInt IntKind.i64.bits ((2 ^ 8 * m : Nat) : Int)).toNat = 2 ^ 8 * m := by
      rw [BitVec.ofInt_natCast, BitVec.toNat_ofNat]
      exact Nat.mod_eq_of_lt (by show 2 ^ 8 * m < 2 ^ 64; omega)
    have e2 : (BitVec.ofInt IntKind.i64.bits (nat b)).toNat = b.toNat := by
      unfold nat
      rw [BitVec.ofInt_natCast, BitVec.toNat_ofNat]
      exact Nat.mod_eq_of_lt (by show b.toNat < 2 ^ 64; omega)
    rw [e1, e2, Nat.two_pow_add_eq_or_of_lt hb]
  rw [h2]
  unfold nat
  rw [IntWalk.i64_in _ (by omega)]
  omega

theorem head_len (x : Int) (n : Int) (ys : List UInt8) (k : Int) (hn : (ys.length : Int) = n) (h1 : 1 ≤ n) (h4 : n ≤ 4) (hf : ys.foldl shl8 0 = k) :
    HeadS (bt (real.bits .and .u8 x 254) :: bt (128 + n) :: ys) = if 4000 < k then (0, 0, 13) else (2 + n, k, 0) := by
  have hb : nat (bt (128 + n)) = 128 + n := nat_bt (by omega)
  simp only [HeadS]
  rw [if_neg (even31 x), hb, if_neg (by omega), if_pos (by omega), if_neg (by omega), show 128 + n - 128 = n by omega, List.take_of_length_le (by omega), hf]

theorem head_bad (x : Int) (b : UInt8) (hb : nat b = 128 ∨ 132 < nat b) (ys : List UInt8) :
    HeadS (bt (real.bits .and .u8 x 254) :: b :: ys) = (0, 0, 11) := by
  simp only [HeadS]
  rw [if_neg (even31 x), if_pos hb]

theorem shr_real (k : Int) (j : Nat) (h : 0 ≤ k ∧ k < 5000) (hj : j ≤ 24) : real.shr .i64 k j = k / 2 ^ j := by
  simp only [real]
  have : min ((j : Int)).toNat IntKind.i64.bits = j := by simp [IntKind.bits]; omega
  rw [this, Int.fdiv_eq_ediv_of_nonneg _ (Int.le_of_lt (Int.pow_pos (by decide)))]

theorem conv_u8 (n : Int) : real.conv .u8 n = n % 256 := by
  simp only [real]
  rw [IntKind.wrap_u8]

set_option maxHeartbeats 2000000 in
theorem f6_2 (a b c : Int) (ha : 0 ≤ a ∧ a ≤ 65535) (hbm : b.tmod 3 = 0) : evw env 6 [.int .u16 a, .int .u8 b, .int .u8 c] [] = some (.bool true, [], false) := by
  refine evw_pureK (pf := fn6) (bs := [.int .u16 a, .int .u8 b, .int .u8 c]) rfl rfl rfl (Nat.le_of_ble_eq_true rfl) (by rfl) rfl rfl ?_
  rintro ⟨add, sub, mul, quo, rem, bits, shl, shr, conv, lt, le, eq, mn, mx, slen, seq, slt, sapp, sfits, sin, sat, ssubOk, ssub, sbytes, llen, lnum, lin, lat, lall, lsub, lapp, lemp, lsized, lfits, lhw, ltext, rep, repOk, mul2, nin, nsub, sfit2, lsum, tipOk, sn, sget, sset, spush, same, esc, or, nlen, ne, sne, sle, sgt, sge, loop⟩ LP cp ho hcp hlp
  have hadd : add = real.add := congrArg Prim.add ho
  have hsub : sub = real.sub := congrArg Prim.sub ho
  have hmul : mul = real.mul := congrArg Prim.mul ho
  have hrem : rem = real.rem := congrArg Prim.rem ho
  have hbits : bits = real.bits := congrArg Prim.bits ho
  have hshr : shr = real.shr := congrArg Prim.shr ho
  have hconv : conv = real.conv := congrArg Prim.conv ho
  have hlt : lt = real.lt := congrArg Prim.lt ho
  have hle : le = real.le := congrArg Prim.le ho
  have heq : eq = real.eq := congrArg Prim.eq ho
  have hltext : ltext = real.ltext := congrArg Prim.ltext ho
  have e1 : lapp = fun xs ys => xs ++ ys := congrArg Prim.lapp ho
  have e2 : lemp = fun xs => xs.isEmpty := congrArg Prim.lemp ho
  have e3 : lsized = sizedAll := congrArg Prim.lsized ho
  have e4 : lfits = fun xs ys b => decide ((xs.length + ys.length) * b ≤ 2 ^ 47) := congrArg Prim.lfits ho
  have e5 : lsum = fun xs ys => xs.length + ys.length := congrArg Prim.lsum ho
  have e6 : tipOk = fun xs ys b sz hw tz => decide (hw = xs.length ∧ tz = sz ∧ (xs.length + ys.length) * b ≤ 2 ^ 47) := congrArg Prim.tipOk ho
  have e7 : sn = fun S => S.length := congrArg Prim.sn ho
  have e8 : sget = fun S i => S[i]? := congrArg Prim.sget ho
  have e9 : sset = fun S i x => S.set i x := congrArg Prim.sset ho
  have e10 : spush = fun S x => S ++ [x] := congrArg Prim.spush ho
  have hlp0 := @hlp (0, pc6L0) (.head _)
  clear hlp
  dsimp only at hlp0
  have r3 : rem .u8 b 3 = 0 := by rw [hrem]; exact hbm
  have z3 : eq 3 0 = false := by rw [heq]; rfl
  have z4 : eq 4200 0 = false := by rw [heq]; rfl
  obtain ⟨k, hk⟩ : ∃ k : Int, k = a.tmod 4200 := ⟨_, rfl⟩
  have hkb : 0 ≤ k ∧ k < 4200 := by rw [hk, Int.tmod_eq_emod_of_nonneg ha.1]; omega
  have ka : conv .i64 a = a := by rw [hconv]; exact IntWalk.i64_in _ (by omega)
  have kr : rem .i64 a 4200 = k := by rw [hrem, hk]; rfl
  obtain ⟨x, hx⟩ : ∃ x, x = bits .andNot .u8 c 32 := ⟨_, rfl⟩
  obtain ⟨t, ht⟩ : ∃ t, t = bits .and .u8 x 254 := ⟨_, rfl⟩
  have c0 : conv .i64 0 = 0 := by rw [hconv]; rfl
  have c1 : add .i64 0 2 = 2 := by rw [hadd]; rfl
  have c2 : add .i64 128 2 = 130 := by rw [hadd]; rfl
  have c3 : conv .u8 130 = 130 := by rw [hconv]; rfl
  have c4 : add .i64 2 2 = 4 := by rw [hadd]; rfl
  have c5 : sub .i64 2 1 = 1 := by rw [hsub]; rfl
  have c6 : le 0 1 = true := by rw [hle]; rfl
  have c7 : mul .i64 8 1 = 8 := by rw [hmul]; rfl
  have c8 : conv .u64 8 = 8 := by rw [hconv]; rfl
  have c9 : lt 8 0 = false := by rw [hlt]; rfl
  have c10 : sub .i64 1 1 = 0 := by rw [hsub]; rfl
  have c11 : le 0 0 = true := by rw [hle]; rfl
  have c12 : mul .i64 8 0 = 0 := by rw [hmul]; rfl
  have c13 : conv .u64 0 = 0 := by rw [hconv]; rfl
  have c14 : lt 0 0 = false := by rw [hlt]; rfl
  have c15 : sub .i64 0 1 = (-1) := by rw [hsub]; rfl
  have c16 : le 0 (-1) = false := by rw [hle]; rfl
  have c17 : eq 0 0 = true := by rw [heq]; rfl
  have c18 : eq 11 11 = true := by rw [heq]; rfl
  have c19 : eq 13 13 = true := by rw [heq]; rfl
  have c20 : eq 4 4 = true := by rw [heq]; rfl
  obtain ⟨y1, hy1⟩ : ∃ y : Int, y = conv .u8 (shr .i64 k 8) := ⟨_, rfl⟩
  have yv1 : nat (bt y1) = k / 2 ^ 8 % 256 := by
    have : y1 = k / 2 ^ 8 % 256 := by rw [hy1, hconv, hshr, conv_u8]; congr 1; exact shr_real k 8 (by omega) (by omega)
    rw [nat_bt (by omega), this]
  obtain ⟨y0, hy0⟩ : ∃ y : Int, y = conv .u8 (shr .i64 k 0) := ⟨_, rfl⟩
  have yv0 : nat (bt y0) = k / 2 ^ 0 % 256 := by
    have : y0 = k / 2 ^ 0 % 256 := by rw [hy0, hconv, hshr, conv_u8]; congr 1; exact shr_real k 0 (by omega) (by omega)
    rw [nat_bt (by omega), this]
  have hfold : [bt y1, bt y0].foldl shl8 0 = k := by
    simp only [List.foldl_cons, List.foldl_nil]
    have s1 : shl8 0 (bt y1) = 0 * 256 + k / 2 ^ 8 % 256 := by rw [shl8_small _ (by omega), yv1]
    rw [s1]
    have s0 : shl8 (0 * 256 + k / 2 ^ 8 % 256) (bt y0) = (0 * 256 + k / 2 ^ 8 % 256) * 256 + k / 2 ^ 0 % 256 := by rw [shl8_small _ (by omega), yv0]
    rw [s0]
    omega
  have H1 := head_len x 2 [bt y1, bt y0] k rfl (by omega) (by omega) hfold
  have htr : real.bits .and .u8 x 254 = t := by rw [ht, hbits]
  rw [htr] at H1
  have H2 := head_bad x 128 (.inl rfl) [1]
  have H3 := head_bad x 133 (.inr (by decide)) [0, 0, 0, 0, 1]
  rw [htr] at H2 H3
  have T1 : ltext [.int .u8 t, .int .u8 130, .int .u8 y1, .int .u8 y0] = some [bt t, bt 130, bt y1, bt y0] := by rw [hltext]; rfl
  have T2 : ltext [.int .u8 t, .int .u8 128, .int .u8 1] = some [bt t, 128, 1] := by rw [hltext]; rfl
  have T3 : ltext [.int .u8 t, .int .u8 133, .int .u8 0, .int .u8 0, .int .u8 0, .int .u8 0, .int .u8 1] = some [bt t, 133, 0, 0, 0, 0, 1] := by rw [hltext]; rfl
  have G1 : ∀ S, evw env 13 [.str [bt t, bt 130, bt y1, bt y0]] S = some (enc3 (if 4000 < k then (0, 0, 13) else (2 + 2, k, 0)), S, false) := fun S => by rw [← H1]; exact f13 _ S (by simp)
  have G2 : ∀ S, evw env 13 [.str [bt t, 128, 1]] S = some (enc3 (0, 0, 11), S, false) := fun S => by rw [← H2]; exact f13 _ S (by simp)
  have G3 : ∀ S, evw env 13 [.str [bt t, 133, 0, 0, 0, 0, 1]] S = some (enc3 (0, 0, 11), S, false) := fun S => by rw [← H3]; exact f13 _ S (by simp)
  have kk : eq k k = true := by rw [heq]; simp [real]
  have kd : lt 4000 k = decide (4000 < k) := by rw [hlt]; rfl
  have e0 : enc3 (0, 0, 11) = .tup [.int .i64 0, .int .i64 0, .int .i64 11] := rfl
  have e00 : enc3 (0, 0, 13) = .tup [.int .i64 0, .int .i64 0, .int .i64 13] := rfl
  have e01 : enc3 (2 + 2, k, 0) = .tup [.int .i64 4, .int .i64 k, .int .i64 0] := rfl
  generalize hL1 : [bt t, bt 130, bt y1, bt y0] = L1 at T1 G1
  generalize hL2 : [bt t, 128, 1] = L2 at T2 G2
  generalize hL3 : [bt t, 133, 0, 0, 0, 0, 1] = L3 at T3 G3
  subst e1 e2 e3 e4 e5 e6 e7 e8 e9 e10
  clear ho hL1 hL2 hL3 H1 H2 H3 hfold yv1 yv0
  rcases Classical.em (4000 < k) with hbig | hbig
  · rw [show decide (4000 < k) = true from decide_eq_true hbig] at kd
    simp only [if_pos hbig, e00] at G1
    simp only [e0] at G2 G3
    clear hbig hkb hk
    cbv
    refine hcp (f10 _) ?_
    cbv
    repeat' (first
      | (simp only [r3, z3, z4, ka, kr, ← hx, ← ht, ← hy1, ← hy0, c0, c1, c2, c3, c4, c5, c6, c7, c8, c9, c10, c11, c12, c13, c14, c15, c16, c17, c18, c19, c20, kk, kd] <;> cbv)
      | (refine ⟨z4, ?_⟩; cbv)
      | (refine ⟨z3, ?_⟩; cbv)
      | (apply hlp0; cbv)
      | (refine ⟨L1, T1, ?_⟩; cbv)
      | (refine ⟨L2, T2, ?_⟩; cbv)
      | (refine ⟨L3, T3, ?_⟩; cbv)
      | (refine hcp (G1 _) ?_; cbv)
      | (refine hcp (G2 _) ?_; cbv)
      | (refine hcp (G3 _) ?_; cbv)
      | (refine ⟨_, _, rfl, ?_⟩; cbv)
      | (refine ⟨rfl, ?_⟩; cbv))
  · rw [show decide (4000 < k) = false from decide_eq_false hbig] at kd
    simp only [if_neg hbig, e01] at G1
    simp only [e0] at G2 G3
    clear hbig hkb hk
    cbv
    refine hcp (f10 _) ?_
    cbv
    repeat' (first
      | (simp only [r3, z3, z4, ka, kr, ← hx, ← ht, ← hy1, ← hy0, c0, c1, c2, c3, c4, c5, c6, c7, c8, c9, c10, c11, c12, c13, c14, c15, c16, c17, c18, c19, c20, kk, kd] <;> cbv)
      | (refine ⟨z4, ?_⟩; cbv)
      | (refine ⟨z3, ?_⟩; cbv)
      | (apply hlp0; cbv)
      | (refine ⟨L1, T1, ?_⟩; cbv)
      | (refine ⟨L2, T2, ?_⟩; cbv)
      | (refine ⟨L3, T3, ?_⟩; cbv)
      | (refine hcp (G1 _) ?_; cbv)
      | (refine hcp (G2 _) ?_; cbv)
      | (refine hcp (G3 _) ?_; cbv)
      | (refine ⟨_, _, rfl, ?_⟩; cbv)
      | (refine ⟨rfl, ?_⟩; cbv))

set_option maxHeartbeats 2000000 in
theorem f6_3 (a b c : Int) (ha : 0 ≤ a ∧ a ≤ 65535) (hbm : b.tmod 3 = 1) : evw env 6 [.int .u16 a, .int .u8 b, .int .u8 c] [] = some (.bool true, [], false) := by
  refine evw_pureK (pf := fn6) (bs := [.int .u16 a, .int .u8 b, .int .u8 c]) rfl rfl rfl (Nat.le_of_ble_eq_true rfl) (by rfl) rfl rfl ?_
  rintro ⟨add, sub, mul, quo, rem, bits, shl, shr, conv, lt, le, eq, mn, mx, slen, seq, slt, sapp, sfits, sin, sat, ssubOk, ssub, sbytes, llen, lnum, lin, lat, lall, lsub, lapp, lemp, lsized, lfits, lhw, ltext, rep, repOk, mul2, nin, nsub, sfit2, lsum, tipOk, sn, sget, sset, spush, same, esc, or, nlen, ne, sne, sle, sgt, sge, loop⟩ LP cp ho hcp hlp
  have hadd : add = real.add := congrArg Prim.add ho
  have hsub : sub = real.sub := congrArg Prim.sub ho
  have hmul : mul = real.mul := congrArg Prim.mul ho
  have hrem : rem = real.rem := congrArg Prim.rem ho
  have hbits : bits = real.bits := congrArg Prim.bits ho
  have hshr : shr = real.shr := congrArg Prim.shr ho
  have hconv : conv = real.conv := congrArg Prim.conv ho
  have hlt : lt = real.lt := congrArg Prim.lt ho
  have hle : le = real.le := congrArg Prim.le ho
  have heq : eq = real.eq := congrArg Prim.eq ho
  have hltext : ltext = real.ltext := congrArg Prim.ltext ho
  have e1 : lapp = fun xs ys => xs ++ ys := congrArg Prim.lapp ho
  have e2 : lemp = fun xs => xs.isEmpty := congrArg Prim.lemp ho
  have e3 : lsized = sizedAll := congrArg Prim.lsized ho
  have e4 : lfits = fun xs ys b => decide ((xs.length + ys.length) * b ≤ 2 ^ 47) := congrArg Prim.lfits ho
  have e5 : lsum = fun xs ys => xs.length + ys.length := congrArg Prim.lsum ho
  have e6 : tipOk = fun xs ys b sz hw tz => decide (hw = xs.length ∧ tz = sz ∧ (xs.length + ys.length) * b ≤ 2 ^ 47) := congrArg Prim.tipOk ho
  have e7 : sn = fun S => S.length := congrArg Prim.sn ho
  have e8 : sget = fun S i => S[i]? := congrArg Prim.sget ho
  have e9 : sset = fun S i x => S.set i x := congrArg Prim.sset ho
  have e10 : spush = fun S x => S ++ [x] := congrArg Prim.spush ho
  have hlp0 := @hlp (0, pc6L0) (.head _)
  clear hlp
  dsimp only at hlp0
  have r3 : rem .u8 b 3 = 1 := by rw [hrem]; exact hbm
  have z3 : eq 3 0 = false := by rw [heq]; rfl
  have z4 : eq 4200 0 = false := by rw [heq]; rfl
  obtain ⟨k, hk⟩ : ∃ k : Int, k = a.tmod 4200 := ⟨_, rfl⟩
  have hkb : 0 ≤ k ∧ k < 4200 := by rw [hk, Int.tmod_eq_emod_of_nonneg ha.1]; omega
  have ka : conv .i64 a = a := by rw [hconv]; exact IntWalk.i64_in _ (by omega)
  have kr : rem .i64 a 4200 = k := by rw [hrem, hk]; rfl
  obtain ⟨x, hx⟩ : ∃ x, x = bits .andNot .u8 c 32 := ⟨_, rfl⟩
  obtain ⟨t, ht⟩ : ∃ t, t = bits .and .u8 x 254 := ⟨_, rfl⟩
  have c0 : conv .i64 1 = 1 := by rw [hconv]; rfl
  have c1 : add .i64 1 2 = 3 := by rw [hadd]; rfl
  have c2 : add .i64 128 3 = 131 := by rw [hadd]; rfl
  have c3 : conv .u8 131 = 131 := by rw [hconv]; rfl
  have c4 : add .i64 2 3 = 5 := by rw [hadd]; rfl
  have c5 : sub .i64 3 1 = 2 := by rw [hsub]; rfl
  have c6 : le 0 2 = true := by rw [hle]; rfl
  have c7 : mul .i64 8 2 = 16 := by rw [hmul]; rfl
  have c8 : conv .u64 16 = 16 := by rw [hconv]; rfl
  have c9 : lt 16 0 = false := by rw [hlt]; rfl
  have c10 : sub .i64 2 1 = 1 := by rw [hsub]; rfl
  have c11 : le 0 1 = true := by rw [hle]; rfl
  have c12 : mul .i64 8 1 = 8 := by rw [hmul]; rfl
  have c13 : conv .u64 8 = 8 := by rw [hconv]; rfl
  have c14 : lt 8 0 = false := by rw [hlt]; rfl
  have c15 : sub .i64 1 1 = 0 := by rw [hsub]; rfl
  have c16 : le 0 0 = true := by rw [hle]; rfl
  have c17 : mul .i64 8 0 = 0 := by rw [hmul]; rfl
  have c18 : conv .u64 0 = 0 := by rw [hconv]; rfl
  have c19 : lt 0 0 = false := by rw [hlt]; rfl
  have c20 : sub .i64 0 1 = (-1) := by rw [hsub]; rfl
  have c21 : le 0 (-1) = false := by rw [hle]; rfl
  have c22 : eq 0 0 = true := by rw [heq]; rfl
  have c23 : eq 11 11 = true := by rw [heq]; rfl
  have c24 : eq 13 13 = true := by rw [heq]; rfl
  have c25 : eq 5 5 = true := by rw [heq]; rfl
  obtain ⟨y2, hy2⟩ : ∃ y : Int, y = conv .u8 (shr .i64 k 16) := ⟨_, rfl⟩
  have yv2 : nat (bt y2) = k / 2 ^ 16 % 256 := by
    have : y2 = k / 2 ^ 16 % 256 := by rw [hy2, hconv, hshr, conv_u8]; congr 1; exact shr_real k 16 (by omega) (by omega)
    rw [nat_bt (by omega), this]
  obtain ⟨y1, hy1⟩ : ∃ y : Int, y = conv .u8 (shr .i64 k 8) := ⟨_, rfl⟩
  have yv1 : nat (bt y1) = k / 2 ^ 8 % 256 := by
    have : y1 = k / 2 ^ 8 % 256 := by rw [hy1, hconv, hshr, conv_u8]; congr 1; exact shr_real k 8 (by omega) (by omega)
    rw [nat_bt (by omega), this]
  obtain ⟨y0, hy0⟩ : ∃ y : Int, y = conv .u8 (shr .i64 k 0) := ⟨_, rfl⟩
  have yv0 : nat (bt y0) = k / 2 ^ 0 % 256 := by
    have : y0 = k / 2 ^ 0 % 256 := by rw [hy0, hconv, hshr, conv_u8]; congr 1; exact shr_real k 0 (by omega) (by omega)
    rw [nat_bt (by omega), this]
  have hfold : [bt y2, bt y1, bt y0].foldl shl8 0 = k := by
    simp only [List.foldl_cons, List.foldl_nil]
    have s2 : shl8 0 (bt y2) = 0 * 256 + k / 2 ^ 16 % 256 := by rw [shl8_small _ (by omega), yv2]
    rw [s2]
    have s1 : shl8 (0 * 256 + k / 2 ^ 16 % 256) (bt y1) = (0 * 256 + k / 2 ^ 16 % 256) * 256 + k / 2 ^ 8 % 256 := by rw [shl8_small _ (by omega), yv1]
    rw [s1]
    have s0 : shl8 ((0 * 256 + k / 2 ^ 16 % 256) * 256 + k / 2 ^ 8 % 256) (bt y0) = ((0 * 256 + k / 2 ^ 16 % 256) * 256 + k / 2 ^ 8 % 256) * 256 + k / 2 ^ 0 % 256 := by rw [shl8_small _ (by omega), yv0]
    rw [s0]
    omega
  have H1 := head_len x 3 [bt y2, bt y1, bt y0] k rfl (by omega) (by omega) hfold
  have htr : real.bits .and .u8 x 254 = t := by rw [ht, hbits]
  rw [htr] at H1
  have H2 := head_bad x 128 (.inl rfl) [1]
  have H3 := head_bad x 133 (.inr (by decide)) [0, 0, 0, 0, 1]
  rw [htr] at H2 H3
  have T1 : ltext [.int .u8 t, .int .u8 131, .int .u8 y2, .int .u8 y1, .int .u8 y0] = some [bt t, bt 131, bt y2, bt y1, bt y0] := by rw [hltext]; rfl
  have T2 : ltext [.int .u8 t, .int .u8 128, .int .u8 1] = some [bt t, 128, 1] := by rw [hltext]; rfl
  have T3 : ltext [.int .u8 t, .int .u8 133, .int .u8 0, .int .u8 0, .int .u8 0, .int .u8 0, .int .u8 1] = some [bt t, 133, 0, 0, 0, 0, 1] := by rw [hltext]; rfl
  have G1 : ∀ S, evw env 13 [.str [bt t, bt 131, bt y2, bt y1, bt y0]] S = some (enc3 (if 4000 < k then (0, 0, 13) else (2 + 3, k, 0)), S, false) := fun S => by rw [← H1]; exact f13 _ S (by simp)
  have G2 : ∀ S, evw env 13 [.str [bt t, 128, 1]] S = some (enc3 (0, 0, 11), S, false) := fun S => by rw [← H2]; exact f13 _ S (by simp)
  have G3 : ∀ S, evw env 13 [.str [bt t, 133, 0, 0, 0, 0, 1]] S = some (enc3 (0, 0, 11), S, false) := fun S => by rw [← H3]; exact f13 _ S (by simp)
  have kk : eq k k = true := by rw [heq]; simp [real]
  have kd : lt 4000 k = decide (4000 < k) := by rw [hlt]; rfl
  have e0 : enc3 (0, 0, 11) = .tup [.int .i64 0, .int .i64 0, .int .i64 11] := rfl
  have e00 : enc3 (0, 0, 13) = .tup [.int .i64 0, .int .i64 0, .int .i64 13] := rfl
  have e01 : enc3 (2 + 3, k, 0) = .tup [.int .i64 5, .int .i64 k, .int .i64 0] := rfl
  generalize hL1 : [bt t, bt 131, bt y2, bt y1, bt y0] = L1 at T1 G1
  generalize hL2 : [bt t, 128, 1] = L2 at T2 G2
  generalize hL3 : [bt t, 133, 0, 0, 0, 0, 1] = L3 at T3 G3
  subst e1 e2 e3 e4 e5 e6 e7 e8 e9 e10
  clear ho hL1 hL2 hL3 H1 H2 H3 hfold yv2 yv1 yv0
  rcases Classical.em (4000 < k) with hbig | hbig
  · rw [show decide (4000 < k) = true from decide_eq_true hbig] at kd
    simp only [if_pos hbig, e00] at G1
    simp only [e0] at G2 G3
    clear hbig hkb hk
    cbv
    refine hcp (f10 _) ?_
    cbv
    repeat' (first
      | (simp only [r3, z3, z4, ka, kr, ← hx, ← ht, ← hy2, ← hy1, ← hy0, c0, c1, c2, c3, c4, c5, c6, c7, c8, c9, c10, c11, c12, c13, c14, c15, c16, c17, c18, c19, c20, c21, c22, c23, c24, c25, kk, kd] <;> cbv)
      | (refine ⟨z4, ?_⟩; cbv)
      | (refine ⟨z3, ?_⟩; cbv)
      | (apply hlp0; cbv)
      | (refine ⟨L1, T1, ?_⟩; cbv)
      | (refine ⟨L2, T2, ?_⟩; cbv)
      | (refine ⟨L3, T3, ?_⟩; cbv)
      | (refine hcp (G1 _) ?_; cbv)
      | (refine hcp (G2 _) ?_; cbv)
      | (refine hcp (G3 _) ?_; cbv)
      | (refine ⟨_, _, rfl, ?_⟩; cbv)
      | (refine ⟨rfl, ?_⟩; cbv))
  · rw [show decide (4000 < k) = false from decide_eq_false hbig] at kd
    simp only [if_neg hbig, e01] at G1
    simp only [e0] at G2 G3
    clear hbig hkb hk
    cbv
    refine hcp (f10 _) ?_
    cbv
    repeat' (first
      | (simp only [r3, z3, z4, ka, kr, ← hx, ← ht, ← hy2, ← hy1, ← hy0, c0, c1, c2, c3, c4, c5, c6, c7, c8, c9, c10, c11, c12, c13, c14, c15, c16, c17, c18, c19, c20, c21, c22, c23, c24, c25, kk, kd] <;> cbv)
      | (refine ⟨z4, ?_⟩; cbv)
      | (refine ⟨z3, ?_⟩; cbv)
      | (apply hlp0; cbv)
      | (refine ⟨L1, T1, ?_⟩; cbv)
      | (refine ⟨L2, T2, ?_⟩; cbv)
      | (refine ⟨L3, T3, ?_⟩; cbv)
      | (refine hcp (G1 _) ?_; cbv)
      | (refine hcp (G2 _) ?_; cbv)
      | (refine hcp (G3 _) ?_; cbv)
      | (refine ⟨_, _, rfl, ?_⟩; cbv)
      | (refine ⟨rfl, ?_⟩; cbv))

set_option maxHeartbeats 2000000 in
theorem f6_4 (a b c : Int) (ha : 0 ≤ a ∧ a ≤ 65535) (hbm : b.tmod 3 = 2) : evw env 6 [.int .u16 a, .int .u8 b, .int .u8 c] [] = some (.bool true, [], false) := by
  refine evw_pureK (pf := fn6) (bs := [.int .u16 a, .int .u8 b, .int .u8 c]) rfl rfl rfl (Nat.le_of_ble_eq_true rfl) (by rfl) rfl rfl ?_
  rintro ⟨add, sub, mul, quo, rem, bits, shl, shr, conv, lt, le, eq, mn, mx, slen, seq, slt, sapp, sfits, sin, sat, ssubOk, ssub, sbytes, llen, lnum, lin, lat, lall, lsub, lapp, lemp, lsized, lfits, lhw, ltext, rep, repOk, mul2, nin, nsub, sfit2, lsum, tipOk, sn, sget, sset, spush, same, esc, or, nlen, ne, sne, sle, sgt, sge, loop⟩ LP cp ho hcp hlp
  have hadd : add = real.add := congrArg Prim.add ho
  have hsub : sub = real.sub := congrArg Prim.sub ho
  have hmul : mul = real.mul := congrArg Prim.mul ho
  have hrem : rem = real.rem := congrArg Prim.rem ho
  have hbits : bits = real.bits := congrArg Prim.bits ho
  have hshr : shr = real.shr := congrArg Prim.shr ho
  have hconv : conv = real.conv := congrArg Prim.conv ho
  have hlt : lt = real.lt := congrArg Prim.lt ho
  have hle : le = real.le := congrArg Prim.le ho
  have heq : eq = real.eq := congrArg Prim.eq ho
  have hltext : ltext = real.ltext := congrArg Prim.ltext ho
  have e1 : lapp = fun xs ys => xs ++ ys := congrArg Prim.lapp ho
  have e2 : lemp = fun xs => xs.isEmpty := congrArg Prim.lemp ho
  have e3 : lsized = sizedAll := congrArg Prim.lsized ho
  have e4 : lfits = fun xs ys b => decide ((xs.length + ys.length) * b ≤ 2 ^ 47) := congrArg Prim.lfits ho
  have e5 : lsum = fun xs ys => xs.length + ys.length := congrArg Prim.lsum ho
  have e6 : tipOk = fun xs ys b sz hw tz => decide (hw = xs.length ∧ tz = sz ∧ (xs.length + ys.length) * b ≤ 2 ^ 47) := congrArg Prim.tipOk ho
  have e7 : sn = fun S => S.length := congrArg Prim.sn ho
  have e8 : sget = fun S i => S[i]? := congrArg Prim.sget ho
  have e9 : sset = fun S i x => S.set i x := congrArg Prim.sset ho
  have e10 : spush = fun S x => S ++ [x] := congrArg Prim.spush ho
  have hlp0 := @hlp (0, pc6L0) (.head _)
  clear hlp
  dsimp only at hlp0
  have r3 : rem .u8 b 3 = 2 := by rw [hrem]; exact hbm
  have z3 : eq 3 0 = false := by rw [heq]; rfl
  have z4 : eq 4200 0 = false := by rw [heq]; rfl
  obtain ⟨k, hk⟩ : ∃ k : Int, k = a.tmod 4200 := ⟨_, rfl⟩
  have hkb : 0 ≤ k ∧ k < 4200 := by rw [hk, Int.tmod_eq_emod_of_nonneg ha.1]; omega
  have ka : conv .i64 a = a := by rw [hconv]; exact IntWalk.i64_in _ (by omega)
  have kr : rem .i64 a 4200 = k := by rw [hrem, hk]; rfl
  obtain ⟨x, hx⟩ : ∃ x, x = bits .andNot .u8 c 32 := ⟨_, rfl⟩
  obtain ⟨t, ht⟩ : ∃ t, t = bits .and .u8 x 254 := ⟨_, rfl⟩
  have c0 : conv .i64 2 = 2 := by rw [hconv]; rfl
  have c1 : add .i64 2 2 = 4 := by rw [hadd]; rfl
  have c2 : add .i64 128 4 = 132 := by rw [hadd]; rfl
  have c3 : conv .u8 132 = 132 := by rw [hconv]; rfl
  have c4 : add .i64 2 4 = 6 := by rw [hadd]; rfl
  have c5 : sub .i64 4 1 = 3 := by rw [hsub]; rfl
  have c6 : le 0 3 = true := by rw [hle]; rfl
  have c7 : mul .i64 8 3 = 24 := by rw [hmul]; rfl
  have c8 : conv .u64 24 = 24 := by rw [hconv]; rfl
  have c9 : lt 24 0 = false := by rw [hlt]; rfl
  have c10 : sub .i64 3 1 = 2 := by rw [hsub]; rfl
  have c11 : le 0 2 = true := by rw [hle]; rfl
  have c12 : mul .i64 8 2 = 16 := by rw [hmul]; rfl
  have c13 : conv .u64 16 = 16 := by rw [hconv]; rfl
  have c14 : lt 16 0 = false := by rw [hlt]; rfl
  have c15 : sub .i64 2 1 = 1 := by rw [hsub]; rfl
  have c16 : le 0 1 = true := by rw [hle]; rfl
  have c17 : mul .i64 8 1 = 8 := by rw [hmul]; rfl
  have c18 : conv .u64 8 = 8 := by rw [hconv]; rfl
  have c19 : lt 8 0 = false := by rw [hlt]; rfl
  have c20 : sub .i64 1 1 = 0 := by rw [hsub]; rfl
  have c21 : le 0 0 = true := by rw [hle]; rfl
  have c22 : mul .i64 8 0 = 0 := by rw [hmul]; rfl
  have c23 : conv .u64 0 = 0 := by rw [hconv]; rfl
  have c24 : lt 0 0 = false := by rw [hlt]; rfl
  have c25 : sub .i64 0 1 = (-1) := by rw [hsub]; rfl
  have c26 : le 0 (-1) = false := by rw [hle]; rfl
  have c27 : eq 0 0 = true := by rw [heq]; rfl
  have c28 : eq 11 11 = true := by rw [heq]; rfl
  have c29 : eq 13 13 = true := by rw [heq]; rfl
  have c30 : eq 6 6 = true := by rw [heq]; rfl
  obtain ⟨y3, hy3⟩ : ∃ y : Int, y = conv .u8 (shr .i64 k 24) := ⟨_, rfl⟩
  have yv3 : nat (bt y3) = k / 2 ^ 24 % 256 := by
    have : y3 = k / 2 ^ 24 % 256 := by rw [hy3, hconv, hshr, conv_u8]; congr 1; exact shr_real k 24 (by omega) (by omega)
    rw [nat_bt (by omega), this]
  obtain ⟨y2, hy2⟩ : ∃ y : Int, y = conv .u8 (shr .i64 k 16) := ⟨_, rfl⟩
  have yv2 : nat (bt y2) = k / 2 ^ 16 % 256 := by
    have : y2 = k / 2 ^ 16 % 256 := by rw [hy2, hconv, hshr, conv_u8]; congr 1; exact shr_real k 16 (by omega) (by omega)
    rw [nat_bt (by omega), this]
  obtain ⟨y1, hy1⟩ : ∃ y : Int, y = conv .u8 (shr .i64 k 8) := ⟨_, rfl⟩
  have yv1 : nat (bt y1) = k / 2 ^ 8 % 256 := by
    have : y1 = k / 2 ^ 8 % 256 := by rw [hy1, hconv, hshr, conv_u8]; congr 1; exact shr_real k 8 (by omega) (by omega)
    rw [nat_bt (by omega), this]
  obtain ⟨y0, hy0⟩ : ∃ y : Int, y = conv .u8 (shr .i64 k 0) := ⟨_, rfl⟩
  have yv0 : nat (bt y0) = k / 2 ^ 0 % 256 := by
    have : y0 = k / 2 ^ 0 % 256 := by rw [hy0, hconv, hshr, conv_u8]; congr 1; exact shr_real k 0 (by omega) (by omega)
    rw [nat_bt (by omega), this]
  have hfold : [bt y3, bt y2, bt y1, bt y0].foldl shl8 0 = k := by
    simp only [List.foldl_cons, List.foldl_nil]
    have s3 : shl8 0 (bt y3) = 0 * 256 + k / 2 ^ 24 % 256 := by rw [shl8_small _ (by omega), yv3]
    rw [s3]
    have s2 : shl8 (0 * 256 + k / 2 ^ 24 % 256) (bt y2) = (0 * 256 + k / 2 ^ 24 % 256) * 256 + k / 2 ^ 16 % 256 := by rw [shl8_small _ (by omega), yv2]
    rw [s2]
    have s1 : shl8 ((0 * 256 + k / 2 ^ 24 % 256) * 256 + k / 2 ^ 16 % 256) (bt y1) = ((0 * 256 + k / 2 ^ 24 % 256) * 256 + k / 2 ^ 16 % 256) * 256 + k / 2 ^ 8 % 256 := by rw [shl8_small _ (by omega), yv1]
    rw [s1]
    have s0 : shl8 (((0 * 256 + k / 2 ^ 24 % 256) * 256 + k / 2 ^ 16 % 256) * 256 + k / 2 ^ 8 % 256) (bt y0) = (((0 * 256 + k / 2 ^ 24 % 256) * 256 + k / 2 ^ 16 % 256) * 256 + k / 2 ^ 8 % 256) * 256 + k / 2 ^ 0 % 256 := by rw [shl8_small _ (by omega), yv0]
    rw [s0]
    omega
  have H1 := head_len x 4 [bt y3, bt y2, bt y1, bt y0] k rfl (by omega) (by omega) hfold
  have htr : real.bits .and .u8 x 254 = t := by rw [ht, hbits]
  rw [htr] at H1
  have H2 := head_bad x 128 (.inl rfl) [1]
  have H3 := head_bad x 133 (.inr (by decide)) [0, 0, 0, 0, 1]
  rw [htr] at H2 H3
  have T1 : ltext [.int .u8 t, .int .u8 132, .int .u8 y3, .int .u8 y2, .int .u8 y1, .int .u8 y0] = some [bt t, bt 132, bt y3, bt y2, bt y1, bt y0] := by rw [hltext]; rfl
  have T2 : ltext [.int .u8 t, .int .u8 128, .int .u8 1] = some [bt t, 128, 1] := by rw [hltext]; rfl
  have T3 : ltext [.int .u8 t, .int .u8 133, .int .u8 0, .int .u8 0, .int .u8 0, .int .u8 0, .int .u8 1] = some [bt t, 133, 0, 0, 0, 0, 1] := by rw [hltext]; rfl
  have G1 : ∀ S, evw env 13 [.str [bt t, bt 132, bt y3, bt y2, bt y1, bt y0]] S = some (enc3 (if 4000 < k then (0, 0, 13) else (2 + 4, k, 0)), S, false) := fun S => by rw [← H1]; exact f13 _ S (by simp)
  have G2 : ∀ S, evw env 13 [.str [bt t, 128, 1]] S = some (enc3 (0, 0, 11), S, false) := fun S => by rw [← H2]; exact f13 _ S (by simp)
  have G3 : ∀ S, evw env 13 [.str [bt t, 133, 0, 0, 0, 0, 1]] S = some (enc3 (0, 0, 11), S, false) := fun S => by rw [← H3]; exact f13 _ S (by simp)
  have kk : eq k k = true := by rw [heq]; simp [real]
  have kd : lt 4000 k = decide (4000 < k) := by rw [hlt]; rfl
  have e0 : enc3 (0, 0, 11) = .tup [.int .i64 0, .int .i64 0, .int .i64 11] := rfl
  have e00 : enc3 (0, 0, 13) = .tup [.int .i64 0, .int .i64 0, .int .i64 13] := rfl
  have e01 : enc3 (2 + 4, k, 0) = .tup [.int .i64 6, .int .i64 k, .int .i64 0] := rfl
  generalize hL1 : [bt t, bt 132, bt y3, bt y2, bt y1, bt y0] = L1 at T1 G1
  generalize hL2 : [bt t, 128, 1] = L2 at T2 G2
  generalize hL3 : [bt t, 133, 0, 0, 0, 0, 1] = L3 at T3 G3
  subst e1 e2 e3 e4 e5 e6 e7 e8 e9 e10
  clear ho hL1 hL2 hL3 H1 H2 H3 hfold yv3 yv2 yv1 yv0
  rcases Classical.em (4000 < k) with hbig | hbig
  · rw [show decide (4000 < k) = true from decide_eq_true hbig] at kd
    simp only [if_pos hbig, e00] at G1
    simp only [e0] at G2 G3
    clear hbig hkb hk
    cbv
    refine hcp (f10 _) ?_
    cbv
    repeat' (first
      | (simp only [r3, z3, z4, ka, kr, ← hx, ← ht, ← hy3, ← hy2, ← hy1, ← hy0, c0, c1, c2, c3, c4, c5, c6, c7, c8, c9, c10, c11, c12, c13, c14, c15, c16, c17, c18, c19, c20, c21, c22, c23, c24, c25, c26, c27, c28, c29, c30, kk, kd] <;> cbv)
      | (refine ⟨z4, ?_⟩; cbv)
      | (refine ⟨z3, ?_⟩; cbv)
      | (apply hlp0; cbv)
      | (refine ⟨L1, T1, ?_⟩; cbv)
      | (refine ⟨L2, T2, ?_⟩; cbv)
      | (refine ⟨L3, T3, ?_⟩; cbv)
      | (refine hcp (G1 _) ?_; cbv)
      | (refine hcp (G2 _) ?_; cbv)
      | (refine hcp (G3 _) ?_; cbv)
      | (refine ⟨_, _, rfl, ?_⟩; cbv)
      | (refine ⟨rfl, ?_⟩; cbv))
  · rw [show decide (4000 < k) = false from decide_eq_false hbig] at kd
    simp only [if_neg hbig, e01] at G1
    simp only [e0] at G2 G3
    clear hbig hkb hk
    cbv
    refine hcp (f10 _) ?_
    cbv
    repeat' (first
      | (simp only [r3, z3, z4, ka, kr, ← hx, ← ht, ← hy3, ← hy2, ← hy1, ← hy0, c0, c1, c2, c3, c4, c5, c6, c7, c8, c9, c10, c11, c12, c13, c14, c15, c16, c17, c18, c19, c20, c21, c22, c23, c24, c25, c26, c27, c28, c29, c30, kk, kd] <;> cbv)
      | (refine ⟨z4, ?_⟩; cbv)
      | (refine ⟨z3, ?_⟩; cbv)
      | (apply hlp0; cbv)
      | (refine ⟨L1, T1, ?_⟩; cbv)
      | (refine ⟨L2, T2, ?_⟩; cbv)
      | (refine ⟨L3, T3, ?_⟩; cbv)
      | (refine hcp (G1 _) ?_; cbv)
      | (refine hcp (G2 _) ?_; cbv)
      | (refine hcp (G3 _) ?_; cbv)
      | (refine ⟨_, _, rfl, ?_⟩; cbv)
      | (refine ⟨rfl, ?_⟩; cbv))

theorem f6 (a b c : Int) (ha : 0 ≤ a ∧ a ≤ 65535) (hb : 0 ≤ b ∧ b ≤ 255) : evw env 6 [.int .u16 a, .int .u8 b, .int .u8 c] [] = some (.bool true, [], false) := by
  have h : b.tmod 3 = 0 ∨ b.tmod 3 = 1 ∨ b.tmod 3 = 2 := by rw [Int.tmod_eq_emod_of_nonneg hb.1]; omega
  rcases h with h | h | h
  · exact f6_2 a b c ha h
  · exact f6_3 a b c ha h
  · exact f6_4 a b c ha h
end Go.Proofs.Ytkaifmdhkoiaeaa.M
