/- Elements of messages: tag and length of what is read. -/
import Derived.Test.YtbinlabnilidiaaDoorMsE1
namespace Go.Proofs.YtbinlabnilidiaaDoor.M
open Go Go.Pam
set_option maxRecDepth 20000
set_option linter.unusedVariables false
set_option linter.unusedSimpArgs false

def zel : El := ⟨0, [], none⟩

def be (z : Int) (c : UInt8) : Int := 256 * z + c.toNat

def hd : Str → Int × Int × Int
 | [] => (0, 0, 10)
 | [a] => if bAnd .u8 a.toNat 31 = 31 then (0, 0, 14) else (0, 0, 10)
 | a :: b :: r =>
  if bAnd .u8 a.toNat 31 = 31 then (0, 0, 14)
  else if b.toNat < 128 then (2, b.toNat, 0)
  else if b.toNat = 128 ∨ 132 < b.toNat then (0, 0, 11)
  else if r.length < b.toNat - 128 then (0, 0, 10)
  else if 4000 < (r.take (b.toNat - 128)).foldl be 0 then (0, 0, 13)
  else (2 + ((b.toNat - 128 : Nat) : Int), (r.take (b.toNat - 128)).foldl be 0, 0)

theorem pow_le4 {k : Nat} (h : k ≤ 4) : (256 : Int) ^ k ≤ 4294967296 := by
 have : k = 0 ∨ k = 1 ∨ k = 2 ∨ k = 3 ∨ k = 4 := by omega
 rcases this with rfl | rfl | rfl | rfl | rfl <;> decide

theorem f10L1 (k : Nat) (q : Int) (l : Str) (hn : l.length ≤ 4) (n i : Nat) (z : Int) (hlt : i < l.length) (h0 : 0 ≤ z) (h1 : z < 256 ^ i) :
  F72_L4 k q (Str.bytes l) (Sl.len (Str.bytes l)) (n + 1) z i = F72_L4 k q (Str.bytes l) (Sl.len (Str.bytes l)) n (be z l[i]) ((i + 1 : Nat) : Int) := by
 have hp := pow_le4 (k := i) (by omega)
 have hc := (l[i]).toNat_lt
 have e2 : Sl.at? (Str.bytes l) (i : Int) = some (((l[i]).toNat : Nat) : Int) := by
  rw [Sl.at?_nat, Str.bytes_l]
  simp [List.getElem?_eq_getElem hlt]
 have e3 : bOr .i64 (256 * z) (cv .i64 ((l[i]).toNat : Int)) = be z l[i] := by
  rw [cv64 (by omega), or64_byte (by omega) (by omega)]; rfl
 have e4 : shl? .i64 z 8 = some (256 * z) := shl64_8 (by omega)
 have e5 : decide ((i : Int) < Sl.len (Str.bytes l)) = true := by simp [Sl.len, Str.bytes, Sl.l]; omega
 have e6 : ad .i64 (i : Int) 1 = ((i + 1 : Nat) : Int) := ad_nat (by omega)
 rw [F72_L4, if_pos e5, bnd e2, bnd e4, e3, e6]

theorem f72L (k : Nat) (q : Int) (l : Str) (hn : l.length ≤ 4) : ∀ (j fuel i : Nat) (z : Int), i + j = l.length → j < fuel → 0 ≤ z → z < 256 ^ i →
  F72_L4 k q (Str.bytes l) (Sl.len (Str.bytes l)) fuel z i = some ((l.drop i).foldl be z, (l.length : Int)) := by
 intro j
 induction j with
 | zero =>
  intro fuel i z hi hf _ _
  obtain ⟨f, rfl⟩ : ∃ f, fuel = f + 1 := ⟨fuel - 1, by omega⟩
  obtain rfl : i = l.length := by omega
  rw [F72_L4, if_neg (by simp [Sl.len, Str.bytes, Sl.l])]
  simp
 | succ j ih =>
  intro fuel i z hi hf h0 h1
  obtain ⟨f, rfl⟩ : ∃ f, fuel = f + 1 := ⟨fuel - 1, by omega⟩
  have hlt : i < l.length := by omega
  have hc := (l[i]).toNat_lt
  rw [f10L1 k q l hn f i z hlt h0 h1, ih f (i + 1) (be z l[i]) (by omega) (by omega) (by unfold be; omega) (by unfold be; rw [Int.pow_succ]; omega), List.drop_eq_getElem_cons hlt, List.foldl_cons]

theorem F13_eq (k : Nat) (hk : 6 ≤ k) (s : Str) (hs : s.length < 4294967296) : F72 k s = some (hd s) := by
 match s with
 | [] => rfl
 | [a] =>
  unfold F72
  have e0 : Str.at? [a] 0 = some (a.toNat : Int) := rfl
  have l0 : ([a] == ([] : Str)) = false := rfl
  have l1 : (Str.len [a] == 1) = true := rfl
  simp only [l0, l1, e0, Option.bind_some, Bool.false_eq_true, if_false, if_true, hd, beq_iff_eq]
  split <;> rfl
 | a :: b :: r =>
  unfold F72
  have e0 : Str.at? (a :: b :: r) 0 = some (a.toNat : Int) := rfl
  have e1 : Str.at? (a :: b :: r) 1 = some (b.toNat : Int) := rfl
  have l0 : ((a :: b :: r) == ([] : Str)) = false := rfl
  have l1 : (Str.len (a :: b :: r) == 1) = false := by simp [Str.len]; omega
  have hb := b.toNat_lt
  simp only [l0, l1, e0, e1, Option.bind_some, Bool.false_eq_true, if_false, hd, beq_iff_eq, decide_eq_true_eq]
  rw [cv64 (by omega), sb64 (by omega)]
  split
  ·rfl
  by_cases h2 : b.toNat < 128
  ·rw [if_neg (by simp; omega), if_neg (by omega), if_pos h2]
   simp only [Option.bind_some]
   rw [if_neg (by omega), ad64 (by omega)]
   rfl
  rw [if_neg h2]
  by_cases h3 : b.toNat = 128 ∨ 132 < b.toNat
  ·rw [if_pos h3, if_pos (by simp; omega)]
   rfl
  rw [if_neg h3, if_neg (by simp; omega), if_pos (by omega)]
  obtain ⟨n, hn⟩ : ∃ n, n = b.toNat - 128 := ⟨_, rfl⟩
  have hn' : (b.toNat : Int) - 128 = n := by omega
  simp only [← hn, hn']
  have hlen : Str.len (a :: b :: r) = ((r.length + 2 : Nat) : Int) := rfl
  have e2 : ad .i64 2 (n : Int) = ((2 + n : Nat) : Int) := by rw [ad64 (by omega)]; omega
  rw [e2, hlen]
  by_cases h4 : r.length < n
  ·rw [if_pos (by omega), if_pos h4]
   rfl
  rw [if_neg (by omega), if_neg h4]
  have e3 : Str.sub? (a :: b :: r) 2 ((2 + n : Nat) : Int) = some (r.take n) := by
   have := Str.sub?_nat (s := a :: b :: r) (l := 2) (h := 2 + n) (by omega) (by simp; omega)
   rw [show ((2 : Nat) : Int) = 2 from rfl] at this
   rw [this, show 2 + n = n + 1 + 1 by omega]
   rfl
  rw [e3]
  simp only [Option.bind_some]
  have hl : (r.take n).length = n := by rw [List.length_take]; omega
  have := f72L k n (r.take n) (by omega) n k 0 0 (by omega) (by omega) (by omega) (by decide)
  rw [show ((0 : Nat) : Int) = 0 from rfl] at this
  rw [this]
  simp only [Option.bind_some, List.drop_zero]
  by_cases h5 : 4000 < (r.take n).foldl be 0
  ·rw [if_pos h5, if_pos h5]
  ·rw [if_neg h5, if_neg h5]
   simp only [Option.some.injEq, Prod.mk.injEq, and_true]
   omega
end Go.Proofs.YtbinlabnilidiaaDoor.M
