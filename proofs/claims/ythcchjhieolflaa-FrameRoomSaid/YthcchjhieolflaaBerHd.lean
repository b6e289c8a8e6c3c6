/- Tag and length, in plain terms; lengths as they are written. -/
import Derived.Test.YthcchjhieolflaaPam28
namespace Go.Pam
open Go
set_option maxRecDepth 20000

def be (z : Int) (c : UInt8) : Int := 256 * z + c.toNat


def hd : Str → Int × Int × Int
  | [] => (0, 0, 10)
  | [a] => if bAnd .u8 a.toNat 31 = 31 then (0, 0, 14) else (0, 0, 10)
  | a :: b :: r =>
    if bAnd .u8 a.toNat 31 = 31 then (0, 0, 14)
    else if b.toNat < 128 then (2, b.toNat, 0)
    else if b.toNat = 128 ∨ 132 < b.toNat then (0, 0, 11)
    else if r.length < b.toNat - 128 then (0, 0, 10)
    else if 4000 < (r.take (b.toNat - 128)).foldl be 0 then (0, 0, 13)
    else (2 + ((b.toNat - 128 : Nat) : Int), (r.take (b.toNat - 128)).foldl be 0, 0)


theorem be_bound : ∀ (l : Str) (z : Int) (k : Nat), 0 ≤ z → z < 256 ^ k → 0 ≤ l.foldl be z ∧ l.foldl be z < 256 ^ (k + l.length)
  | [], z, k, h0, h1 => ⟨h0, h1⟩
  | b :: l, z, k, h0, h1 => by
    have hb := b.toNat_lt
    have := be_bound l (be z b) (k + 1) (by unfold be; omega) (by unfold be; rw [Int.pow_succ]; omega)
    simp only [List.foldl_cons, List.length_cons]
    rw [show k + (l.length + 1) = k + 1 + l.length by omega]
    exact this


theorem pow_le4 {k : Nat} (h : k ≤ 4) : (256 : Int) ^ k ≤ 4294967296 := by
  have : k = 0 ∨ k = 1 ∨ k = 2 ∨ k = 3 ∨ k = 4 := by omega
  rcases this with rfl | rfl | rfl | rfl | rfl <;> decide


theorem hd_bounds (s : Str) : ∃ (hh sz : Nat) (e : Int), hd s = ((hh : Int), (sz : Int), e) ∧ hh ≤ 6 ∧ sz ≤ 4000 ∧ (e = 0 → 2 ≤ hh ∧ hh ≤ s.length) := by
  match s with
  | [] => exact ⟨0, 0, 10, rfl, by omega, by omega, by omega⟩
  | [a] =>
    simp only [hd]
    split
    · exact ⟨0, 0, 14, rfl, by omega, by omega, by omega⟩
    · exact ⟨0, 0, 10, rfl, by omega, by omega, by omega⟩
  | a :: b :: r =>
    have hb := b.toNat_lt
    simp only [hd]
    split
    · exact ⟨0, 0, 14, rfl, by omega, by omega, by omega⟩
    split
    · exact ⟨2, b.toNat, 0, rfl, by omega, by omega, fun _ => ⟨by omega, by simp only [List.length_cons]; omega⟩⟩
    split
    · exact ⟨0, 0, 11, rfl, by omega, by omega, by omega⟩
    split
    · exact ⟨0, 0, 10, rfl, by omega, by omega, by omega⟩
    split
    · exact ⟨0, 0, 13, rfl, by omega, by omega, by omega⟩
    · rename_i h1 h2 h3 h4 h5
      have := (be_bound (r.take (b.toNat - 128)) 0 0 (by omega) (by decide)).1
      refine ⟨2 + (b.toNat - 128), ((r.take (b.toNat - 128)).foldl be 0).toNat, 0, ?_, by omega, by omega, fun _ => ⟨by omega, by simp only [List.length_cons]; omega⟩⟩
      simp only [Prod.mk.injEq, and_true]
      omega


def lenS (n : Nat) : Str := if n < 128 then [UInt8.ofNat n] else if n < 256 then [129, UInt8.ofNat n] else [130, UInt8.ofNat (n / 256), UInt8.ofNat n]


theorem lenS_len (n : Nat) : (lenS n).length ≤ 3 ∧ 1 ≤ (lenS n).length := by
  unfold lenS
  split
  · simp
  · split <;> simp


theorem byte_tag {t : Int} (h : (Lit.int .u8 t).wf = true) : ((UInt8.ofNat t.toNat).toNat : Int) = t := by
  have hb : 0 ≤ t ∧ t ≤ 255 := by simpa [Lit.wf, IntKind.min, IntKind.max, IntKind.signed, IntKind.bits] using h
  rw [UInt8.toNat_ofNat']
  omega


theorem of256 (n : Nat) (h : n < 256) : (UInt8.ofNat n).toNat = n := by rw [UInt8.toNat_ofNat']; omega


theorem hd_write {t : Int} (ht : (Lit.int .u8 t).wf = true) (h31 : bAnd .u8 t 31 ≠ 31) (n : Nat) (hn : n ≤ 4000) (r : Str) :
    hd (UInt8.ofNat t.toNat :: (lenS n ++ r)) = (((1 + (lenS n).length : Nat) : Int), (n : Int), 0) := by
  unfold lenS
  split
  · simp only [List.cons_append, List.nil_append, hd, byte_tag ht, List.length_singleton]
    rw [if_neg h31, of256 n (by omega), if_pos (by omega)]
    rfl
  · split
    · simp only [List.cons_append, List.nil_append, hd, byte_tag ht]
      rw [if_neg h31, show (129 : UInt8).toNat = 129 from rfl, if_neg (by omega), if_neg (by omega), if_neg (by simp), if_neg]
      · simp only [List.take_succ_cons, List.take_zero, List.foldl_cons, List.foldl_nil, be, of256 n (by omega)]
        simp
      · simp only [List.take_succ_cons, List.take_zero, List.foldl_cons, List.foldl_nil, be, of256 n (by omega)]
        omega
    · simp only [List.cons_append, List.nil_append, hd, byte_tag ht]
      have hlo : (UInt8.ofNat n).toNat = n % 256 := by rw [UInt8.toNat_ofNat']
      rw [if_neg h31, show (130 : UInt8).toNat = 130 from rfl, if_neg (by omega), if_neg (by omega), if_neg (by simp), if_neg]
      · simp only [List.take_succ_cons, List.take_zero, List.foldl_cons, List.foldl_nil, be, of256 (n / 256) (by omega), hlo]
        simp only [Prod.mk.injEq, and_true]
        constructor
        · simp
        · omega
      · simp only [List.take_succ_cons, List.take_zero, List.foldl_cons, List.foldl_nil, be, of256 (n / 256) (by omega), hlo]
        omega


theorem hd_cut {t : Int} (ht : (Lit.int .u8 t).wf = true) (h31 : bAnd .u8 t 31 ≠ 31) (B : Str) (hn : B.length ≤ 4000) (q : Nat) (hq : q < 1 + (lenS B.length).length + B.length) :
    ∃ hh sz e : Int, hd ((UInt8.ofNat t.toNat :: (lenS B.length ++ B)).take q) = (hh, sz, e) ∧ (e = 10 ∨ e = 0 ∧ 0 ≤ hh ∧ hh ≤ 6 ∧ sz > (q : Int) - hh) := by
  cases q with
  | zero => exact ⟨0, 0, 10, rfl, .inl rfl⟩
  | succ q =>
    rw [List.take_succ_cons]
    generalize hnn : B.length = n at *
    unfold lenS at hq ⊢
    split
    · rename_i h1
      rw [if_pos h1] at hq
      cases q with
      | zero => simp only [List.take_zero, hd, byte_tag ht]; rw [if_neg h31]; exact ⟨0, 0, 10, rfl, .inl rfl⟩
      | succ q =>
        simp only [List.cons_append, List.nil_append, List.take_succ_cons, hd, byte_tag ht]
        rw [if_neg h31, of256 n (by omega), if_pos (by omega)]
        simp only [List.length_singleton] at hq
        exact ⟨2, n, 0, rfl, .inr ⟨rfl, by omega, by omega, by omega⟩⟩
    · rename_i h1
      rw [if_neg h1] at hq
      split
      · rename_i h2
        rw [if_pos h2] at hq
        simp only [List.length_cons, List.length_nil] at hq
        match q, hq with
        | 0, _ => simp only [List.take_zero, hd, byte_tag ht]; rw [if_neg h31]; exact ⟨0, 0, 10, rfl, .inl rfl⟩
        | 1, _ =>
          simp only [List.cons_append, List.nil_append, List.take_succ_cons, List.take_zero, hd, byte_tag ht]
          rw [if_neg h31, show (129 : UInt8).toNat = 129 from rfl, if_neg (by omega), if_neg (by omega), if_pos (by simp)]
          exact ⟨0, 0, 10, rfl, .inl rfl⟩
        | q + 2, hq =>
          simp only [List.cons_append, List.nil_append, List.take_succ_cons, hd, byte_tag ht]
          rw [if_neg h31, show (129 : UInt8).toNat = 129 from rfl, if_neg (by omega), if_neg (by omega), if_neg (by simp), if_neg]
          · simp only [List.take_succ_cons, List.take_zero, List.foldl_cons, List.foldl_nil, be, of256 n (by omega)]
            exact ⟨_, _, 0, rfl, .inr ⟨rfl, by simp, by simp, by simp; omega⟩⟩
          · simp only [List.take_succ_cons, List.take_zero, List.foldl_cons, List.foldl_nil, be, of256 n (by omega)]
            omega
      · rename_i h2
        rw [if_neg h2] at hq
        simp only [List.length_cons, List.length_nil] at hq
        have hlo : (UInt8.ofNat n).toNat = n % 256 := by rw [UInt8.toNat_ofNat']
        match q, hq with
        | 0, _ => simp only [List.take_zero, hd, byte_tag ht]; rw [if_neg h31]; exact ⟨0, 0, 10, rfl, .inl rfl⟩
        | 1, _ =>
          simp only [List.cons_append, List.nil_append, List.take_succ_cons, List.take_zero, hd, byte_tag ht]
          rw [if_neg h31, show (130 : UInt8).toNat = 130 from rfl, if_neg (by omega), if_neg (by omega), if_pos (by simp)]
          exact ⟨0, 0, 10, rfl, .inl rfl⟩
        | 2, _ =>
          simp only [List.cons_append, List.nil_append, List.take_succ_cons, List.take_zero, hd, byte_tag ht]
          rw [if_neg h31, show (130 : UInt8).toNat = 130 from rfl, if_neg (by omega), if_neg (by omega), if_pos (by simp)]
          exact ⟨0, 0, 10, rfl, .inl rfl⟩
        | q + 3, hq =>
          simp only [List.cons_append, List.nil_append, List.take_succ_cons, hd, byte_tag ht]
          rw [if_neg h31, show (130 : UInt8).toNat = 130 from rfl, if_neg (by omega), if_neg (by omega), if_neg (by simp), if_neg]
          · simp only [List.take_succ_cons, List.take_zero, List.foldl_cons, List.foldl_nil, be, of256 (n / 256) (by omega), hlo]
            exact ⟨_, _, 0, rfl, .inr ⟨rfl, by simp, by simp, by simp; omega⟩⟩
          · simp only [List.take_succ_cons, List.take_zero, List.foldl_cons, List.foldl_nil, be, of256 (n / 256) (by omega), hlo]
            omega

end Go.Pam
