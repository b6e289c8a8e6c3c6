/- Plain laws of the plain operations. -/
import Derived.Test.YthkjepoaddfoiaaPam27
namespace Go.Pam
set_option linter.unusedVariables false
set_option linter.unusedSimpArgs false

theorem ad64 {x y : Int} (h : -9223372036854775808 ≤ x + y ∧ x + y < 9223372036854775808) : ad .i64 x y = x + y := IntWalk.i64_in _ (by omega)
theorem sb64 {x y : Int} (h : -9223372036854775808 ≤ x - y ∧ x - y < 9223372036854775808) : sb .i64 x y = x - y := IntWalk.i64_in _ (by omega)
theorem ml64 {x y : Int} (h : -9223372036854775808 ≤ x * y ∧ x * y < 9223372036854775808) : ml .i64 x y = x * y := IntWalk.i64_in _ (by omega)
theorem cv64 {x : Int} (h : -9223372036854775808 ≤ x ∧ x < 9223372036854775808) : cv .i64 x = x := IntWalk.i64_in _ (by omega)
theorem cv8 {x : Int} (h : 0 ≤ x ∧ x < 256) : cv .u8 x = x := IntWalk.u8_in _ (by omega)
theorem ad_nat {i : Nat} (h : i < 9223372036854775000) : ad .i64 (i : Int) 1 = ((i + 1 : Nat) : Int) := by rw [ad64 (by omega)]; omega

theorem Sl.at?_nat {α : Type} (a : Sl α) (i : Nat) : Sl.at? a (i : Int) = a.l[i]? := by simp [Sl.at?]
theorem Sl.len_nat {α : Type} (a : Sl α) : Sl.len a = ((a.l.length : Nat) : Int) := rfl
theorem Str.len_nat (s : Str) : Str.len s = ((s.length : Nat) : Int) := rfl
theorem Str.at?_nat (s : Str) (i : Nat) : Str.at? s (i : Int) = (s[i]?).map fun b => (b.toNat : Int) := by simp [Str.at?]
theorem Str.sub?_nat {s : Str} {l h : Nat} (h1 : l ≤ h) (h2 : h ≤ s.length) : Str.sub? s (l : Int) (h : Int) = some ((s.take h).drop l) := by
  unfold Str.sub?
  rw [if_pos (by omega)]
  simp
theorem Str.app?_ok {a b : Str} (h : a.length + b.length < 9223372036854775808) : Str.app? a b = some (a ++ b) := by
  unfold Str.app?
  rw [if_neg]
  show ¬ ((a.length + b.length : Nat) : Int) > 9223372036854775807
  omega
theorem Sl.app?_ok {α : Type} {bytes : Nat} {x : Sl α} {ys : List α} (hy : ys ≠ []) (h : (x.l.length + ys.length) * bytes ≤ 2 ^ 47) : Sl.app? bytes x ys = some (some (x.l ++ ys)) := by
  unfold Sl.app?
  rw [if_pos h]
  cases ys with
  | nil => exact absurd rfl hy
  | cons y ys => rfl
theorem Sl.app?_l {α : Type} {bytes : Nat} {x : Sl α} {ys : List α} (h : (x.l.length + ys.length) * bytes ≤ 2 ^ 47) : ∃ z, Sl.app? bytes x ys = some z ∧ z.l = x.l ++ ys := by
  unfold Sl.app?
  rw [if_pos h]
  cases ys with
  | nil => exact ⟨x, rfl, by simp⟩
  | cons y ys => exact ⟨_, rfl, rfl⟩
theorem Sl.l_some {α : Type} (l : List α) : Sl.l (some l) = l := rfl
theorem Sl.l_none {α : Type} : Sl.l (none : Sl α) = [] := rfl
theorem Str.bytes_l (s : Str) : (Str.bytes s).l = s.map fun b => (b.toNat : Int) := rfl
theorem Str.of_bytes_map (s : Str) : Str.of (some (s.map fun b => (b.toNat : Int))) = s := by
  simp only [Str.of, Sl.l, Option.getD_some, List.map_map]
  conv => rhs; rw [← List.map_id s]
  apply List.map_congr_left
  intro b _
  simp

theorem rem?_nat {a : Int} (h0 : 0 ≤ a) {n : Nat} (hn : 0 < n) : ∃ m : Nat, m < n ∧ rem? a n = some (m : Int) := by
  refine ⟨(a.tmod n).toNat, ?_, ?_⟩
  · rw [Int.tmod_eq_emod_of_nonneg h0]; have := Int.emod_lt_of_pos a (b := n) (by omega); have := Int.emod_nonneg a (b := n) (by omega); omega
  · unfold rem?; rw [if_neg (by omega), Int.tmod_eq_emod_of_nonneg h0]; have := Int.emod_nonneg a (b := n) (by omega); congr 1; omega

theorem shl64_8 {x : Int} (h : 0 ≤ x ∧ x < 1099511627776) : shl? .i64 x 8 = some (256 * x) := by
  unfold shl?
  rw [if_neg (by omega)]
  have h1 : (2 : Int) ^ (min (8 : Int).toNat IntKind.i64.bits) = 256 := by decide
  rw [h1]
  congr 1
  rw [show x * 256 = 256 * x by omega]
  exact IntWalk.i64_in _ (by omega)

theorem or64_byte {x y : Int} (hx : 0 ≤ x ∧ x < 1099511627776) (hy : 0 ≤ y ∧ y < 256) : bOr .i64 (256 * x) y = 256 * x + y := by
  obtain ⟨m, rfl⟩ : ∃ m : Nat, x = m := ⟨x.toNat, by omega⟩
  obtain ⟨b, rfl⟩ : ∃ b : Nat, y = b := ⟨y.toNat, by omega⟩
  unfold bOr
  have h2 : (BitVec.ofInt IntKind.i64.bits (256 * (m : Int)) ||| BitVec.ofInt IntKind.i64.bits (b : Int)).toNat = 2 ^ 8 * m + b := by
    rw [BitVec.toNat_or]
    have e1 : (BitVec.ofInt IntKind.i64.bits (256 * (m : Int))).toNat = 2 ^ 8 * m := by
      rw [show 256 * (m : Int) = ((2 ^ 8 * m : Nat) : Int) by omega, BitVec.ofInt_natCast, BitVec.toNat_ofNat]
      exact Nat.mod_eq_of_lt (by show 2 ^ 8 * m < 2 ^ 64; omega)
    have e2 : (BitVec.ofInt IntKind.i64.bits (b : Int)).toNat = b := by
      rw [BitVec.ofInt_natCast, BitVec.toNat_ofNat]
      exact Nat.mod_eq_of_lt (by show b < 2 ^ 64; omega)
    rw [e1, e2, Nat.two_pow_add_eq_or_of_lt (by omega)]
  rw [h2]
  rw [IntWalk.i64_in _ (by omega)]
  omega

theorem and8_le {x y : Int} (hy : 0 ≤ y ∧ y < 256) : 0 ≤ bAnd .u8 x y ∧ bAnd .u8 x y ≤ y := by
  obtain ⟨b, rfl⟩ : ∃ b : Nat, y = b := ⟨y.toNat, by omega⟩
  unfold bAnd
  have e2 : (BitVec.ofInt IntKind.u8.bits (b : Int)).toNat = b := by
    rw [BitVec.ofInt_natCast, BitVec.toNat_ofNat]
    exact Nat.mod_eq_of_lt (by show b < 2 ^ 8; omega)
  have h := Nat.and_le_right (n := (BitVec.ofInt IntKind.u8.bits x).toNat) (m := b)
  rw [BitVec.toNat_and, e2, IntWalk.u8_in _ (by omega)]
  omega

theorem bnd {α β : Type} {x : Option α} {a : α} (h : x = some a) (f : α → Option β) : x.bind f = f a := by rw [h]; rfl
theorem ite_pos' {α : Type} {c : Bool} (h : c = true) (a b : α) : (if c = true then a else b) = a := if_pos h
theorem ite_neg' {α : Type} {c : Bool} (h : c = false) (a b : α) : (if c = true then a else b) = b := by rw [h]; rfl

theorem ite_nt {α : Type} (a b : α) : (if (!true) = true then a else b) = b := rfl
theorem ite_nf {α : Type} (a b : α) : (if (!false) = true then a else b) = a := rfl

theorem bind_some' {α β : Type} (a : α) (f : α → Option β) : (some a).bind f = f a := rfl
end Go.Pam
