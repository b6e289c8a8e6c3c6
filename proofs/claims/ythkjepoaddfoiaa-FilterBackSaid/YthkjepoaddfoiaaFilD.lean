/- Filters: how they are printed. -/
import Derived.Test.YthkjepoaddfoiaaFilC
namespace Go.Proofs.Ythkjepoaddfoiaa.M
open Go Go.Pam
set_option maxRecDepth 20000
set_option linter.unusedVariables false
set_option linter.unusedSimpArgs false

def HEX : Str := [48, 49, 50, 51, 52, 53, 54, 55, 56, 57, 97, 98, 99, 100, 101, 102]
def hexB (n : Nat) : UInt8 := HEX.getD n 0
def spec (n : Nat) : Bool := decide (n < 32) || decide (n > 126) || (n == 42) || (n == 40) || (n == 41) || (n == 92)
def escB (c : UInt8) : Str := if spec c.toNat = true then [92, hexB (c.toNat / 16), hexB (c.toNat % 16)] else [c]
def escS (s : Str) : Str := s.flatMap escB

def chk (n : Nat) : Bool :=
 (shr? .u8 (n : Int) 4 == some ((n / 16 : Nat) : Int)) && (bAnd .u8 (n : Int) 15 == ((n % 16 : Nat) : Int)) &&
 (Str.at? HEX ((n / 16 : Nat) : Int) == some ((hexB (n / 16)).toNat : Int)) && (Str.at? HEX ((n % 16 : Nat) : Int) == some ((hexB (n % 16)).toNat : Int)) &&
 (Str.sub? HEX ((n / 16 : Nat) : Int) (ad .u8 ((n / 16 : Nat) : Int) 1) == some [hexB (n / 16)]) && (Str.sub? HEX ((n % 16 : Nat) : Int) (ad .u8 ((n % 16 : Nat) : Int) 1) == some [hexB (n % 16)])
theorem chk_all : (List.range 256).all chk = true := by kernel_rfl
theorem chk_of {n : Nat} (h : n < 256) : shr? .u8 (n : Int) 4 = some ((n / 16 : Nat) : Int) ∧ bAnd .u8 (n : Int) 15 = ((n % 16 : Nat) : Int) ∧
  Str.at? HEX ((n / 16 : Nat) : Int) = some ((hexB (n / 16)).toNat : Int) ∧ Str.at? HEX ((n % 16 : Nat) : Int) = some ((hexB (n % 16)).toNat : Int) ∧
  Str.sub? HEX ((n / 16 : Nat) : Int) (ad .u8 ((n / 16 : Nat) : Int) 1) = some [hexB (n / 16)] ∧ Str.sub? HEX ((n % 16 : Nat) : Int) (ad .u8 ((n % 16 : Nat) : Int) 1) = some [hexB (n % 16)] := by
 have := List.all_eq_true.1 chk_all n (List.mem_range.2 h)
 simp only [chk, Bool.and_eq_true, beq_iff_eq] at this
 exact ⟨this.1.1.1.1.1, this.1.1.1.1.2, this.1.1.1.2, this.1.1.2, this.1.2, this.2⟩

theorem put_ok {x ys : Str} (h : x.length + ys.length ≤ 140737488355328) : Str.put? x ys = some (x ++ ys) := by unfold Str.put?; rw [if_pos h]
theorem byte_ok {x : Str} {c : UInt8} (h : x.length + 1 ≤ 140737488355328) : Str.byte? x (c.toNat : Int) = some (x ++ [c]) := by
 have hc := c.toNat_lt
 unfold Str.byte?
 rw [if_pos ⟨by omega, by omega⟩, Int.toNat_natCast, UInt8.ofNat_toNat]
 exact put_ok h
theorem app_ok {a b : Str} (h : a.length + b.length < 9223372036854775808) : Str.app? a b = some (a ++ b) := Str.app?_ok h

theorem escB_len (c : UInt8) : (escB c).length ≤ 3 := by unfold escB; split <;> simp
theorem escS_len (s : Str) : (escS s).length ≤ 3 * s.length := by
 induction s with
 | nil => simp [escS]
 | cons c r ih =>
  have := escB_len c
  simp only [escS, List.flatMap_cons, List.length_append, List.length_cons] at ih ⊢
  omega

theorem spec_int (c : UInt8) : ((((((decide ((c.toNat : Int) < 32)) || (decide ((c.toNat : Int) > 126))) || ((c.toNat : Int) == 42)) || ((c.toNat : Int) == 40)) || ((c.toNat : Int) == 41)) || ((c.toNat : Int) == 92)) = spec c.toNat := by
 unfold spec
 rw [Bool.eq_iff_iff]
 simp only [Bool.or_eq_true, decide_eq_true_eq, beq_iff_eq]
 omega
theorem spec_int2 (c : UInt8) : (((((((c.toNat : Int) == 42) || ((c.toNat : Int) == 40)) || ((c.toNat : Int) == 41)) || ((c.toNat : Int) == 92)) || (decide ((c.toNat : Int) < 32))) || (decide ((c.toNat : Int) > 126))) = spec c.toNat := by
 unfold spec
 rw [Bool.eq_iff_iff]
 simp only [Bool.or_eq_true, decide_eq_true_eq, beq_iff_eq]
 omega

theorem f37L (k : Nat) (s : Str) (hs : s.length ≤ 1000) : ∀ (j n i : Nat) (w : Str), i + j = s.length → j < n → w.length + 3 * j ≤ 100000 → ∃ q, F37_L0 k (Str.bytes s) (Sl.len (Str.bytes s)) n (i : Int) w = some (q, w ++ escS (s.drop i))
 | j, 0, i, w, _, h, _ => by omega
 | 0, n + 1, i, w, hij, _, _ => by
  have : i = s.length := by omega
  subst this
  rw [F37_L0, if_neg (by simp [Sl.len, Str.bytes_l])]
  exact ⟨((s.length : Nat) : Int), by simp [escS]⟩
 | j + 1, n + 1, i, w, hij, hn, hw => by
  have hi : i < s.length := by omega
  have hd : s.drop i = s[i] :: s.drop (i + 1) := List.drop_eq_getElem_cons hi
  have ha : Sl.at? (Str.bytes s) (i : Int) = some ((s[i]).toNat : Int) := by
   rw [Sl.at?_nat, Str.bytes_l, List.getElem?_map, List.getElem?_eq_getElem hi]; rfl
  generalize s[i] = c at hd ha
  have hc := c.toNat_lt
  obtain ⟨c1, c2, c3, c4, _, _⟩ := chk_of hc
  unfold HEX at c3 c4
  have hstep : ∃ w', w'.length ≤ w.length + 3 ∧ w' = w ++ escB c ∧ (if (((((decide ((c.toNat : Int) < 32)) || (decide ((c.toNat : Int) > 126))) || ((c.toNat : Int) == 42)) || ((c.toNat : Int) == 40)) || ((c.toNat : Int) == 41)) || ((c.toNat : Int) == 92) then
    Option.bind (Str.byte? w 92) fun z548 =>
    Option.bind (shr? .u8 (c.toNat : Int) 4) fun z549 =>
    Option.bind (Str.at? [48, 49, 50, 51, 52, 53, 54, 55, 56, 57, 97, 98, 99, 100, 101, 102] z549) fun c550 =>
    Option.bind (Str.byte? z548 c550) fun z552 =>
    Option.bind (Str.at? [48, 49, 50, 51, 52, 53, 54, 55, 56, 57, 97, 98, 99, 100, 101, 102] (bAnd .u8 (c.toNat : Int) 15)) fun c553 =>
    Option.bind (Str.byte? z552 c553) fun z555 =>
    some z555
    else
    Option.bind (Str.byte? w (c.toNat : Int)) fun z557 =>
    some z557) = some w' := by
   refine ⟨w ++ escB c, by have := escB_len c; simp only [List.length_append]; omega, rfl, ?_⟩
   rw [spec_int]
   unfold escB
   cases spec c.toNat
   ·rw [if_neg (by simp), if_neg (by simp), bnd (byte_ok (by omega))]
   ·rw [if_pos rfl, if_pos rfl]
    have b1 : Str.byte? w 92 = some (w ++ [92]) := byte_ok (c := 92) (by omega)
    have b2 : Str.byte? (w ++ [92]) ((hexB (c.toNat / 16)).toNat : Int) = some (w ++ [92] ++ [hexB (c.toNat / 16)]) := byte_ok (by simp; omega)
    have b3 : Str.byte? (w ++ [92] ++ [hexB (c.toNat / 16)]) ((hexB (c.toNat % 16)).toNat : Int) = some (w ++ [92] ++ [hexB (c.toNat / 16)] ++ [hexB (c.toNat % 16)]) := byte_ok (by simp; omega)
    rw [bnd b1, bnd c1, bnd c3, bnd b2, c2, bnd c4, bnd b3]
    simp [List.append_assoc]
  obtain ⟨w', hw1, hw2, hw3⟩ := hstep
  obtain ⟨q, hq⟩ := f37L k s hs j n (i + 1) w' (by omega) (by omega) (by omega)
  refine ⟨q, ?_⟩
  rw [F37_L0, if_pos (decide_eq_true (by simp only [Sl.len, Str.bytes_l, List.length_map]; omega)), bnd ha, bnd hw3, ad_nat (by omega), hq, hw2, hd]
  simp [escS, List.append_assoc]

theorem f37 {k : Nat} (s : Str) (hs : s.length ≤ 1000) (hk : s.length < k) : F37 k s = some (escS s) := by
 obtain ⟨q, hq⟩ := f37L k s hs s.length k 0 [] (by omega) hk (by simp; omega)
 rw [List.drop_zero] at hq
 have hq' : F37_L0 k (Str.bytes s) (Sl.len (Str.bytes s)) k 0 [] = some (q, [] ++ escS s) := hq
 unfold F37
 rw [bnd hq']
 rfl

theorem f22L (k : Nat) (s : Str) (hs : s.length ≤ 1000) : ∀ (j n i : Nat) (w : Str), i + j = s.length → j < n → w.length + 3 * j ≤ 100000 → ∃ q, F22_L0 k s n w (i : Int) = some (w ++ escS (s.drop i), q)
 | j, 0, i, w, _, h, _ => by omega
 | 0, n + 1, i, w, hij, _, _ => by
  have : i = s.length := by omega
  subst this
  rw [F22_L0, if_neg (by simp [Str.len])]
  exact ⟨((s.length : Nat) : Int), by simp [escS]⟩
 | j + 1, n + 1, i, w, hij, hn, hw => by
  have hi : i < s.length := by omega
  have hd : s.drop i = s[i] :: s.drop (i + 1) := List.drop_eq_getElem_cons hi
  have ha : Str.at? s (i : Int) = some ((s[i]).toNat : Int) := by rw [Str.at?_nat, List.getElem?_eq_getElem hi]; rfl
  have hsub : Str.sub? s (i : Int) (ad .i64 (i : Int) 1) = some [s[i]] := by
   rw [ad_nat (by omega), Str.sub?_nat (by omega) (by omega), List.drop_take, show i + 1 - i = 1 by omega, hd]
   rfl
  generalize s[i] = c at hd ha hsub
  have hc := c.toNat_lt
  obtain ⟨c1, c2, _, _, c5, c6⟩ := chk_of hc
  unfold HEX at c5 c6
  have hstep : (if ((((((c.toNat : Int) == 42) || ((c.toNat : Int) == 40)) || ((c.toNat : Int) == 41)) || ((c.toNat : Int) == 92)) || (decide ((c.toNat : Int) < 32))) || (decide ((c.toNat : Int) > 126)) then
    Option.bind (Str.app? w [92]) fun z225 =>
    Option.bind (shr? .u8 (c.toNat : Int) 4) fun z226 =>
    Option.bind (shr? .u8 (c.toNat : Int) 4) fun z227 =>
    Option.bind (Str.sub? [48, 49, 50, 51, 52, 53, 54, 55, 56, 57, 97, 98, 99, 100, 101, 102] z226 (ad .u8 z227 1)) fun z228 =>
    Option.bind (Str.app? z225 z228) fun z229 =>
    Option.bind (Str.sub? [48, 49, 50, 51, 52, 53, 54, 55, 56, 57, 97, 98, 99, 100, 101, 102] (bAnd .u8 (c.toNat : Int) 15) (ad .u8 (bAnd .u8 (c.toNat : Int) 15) 1)) fun z230 =>
    Option.bind (Str.app? z229 z230) fun z231 =>
    some z231
    else
    Option.bind (Str.sub? s (i : Int) (ad .i64 (i : Int) 1)) fun z232 =>
    Option.bind (Str.app? w z232) fun z233 =>
    some z233) = some (w ++ escB c) := by
   rw [spec_int2]
   unfold escB
   cases spec c.toNat
   ·rw [if_neg (by simp), if_neg (by simp), bnd hsub, bnd (app_ok (by simp; omega))]
   ·rw [if_pos rfl, if_pos rfl]
    have b1 : Str.app? w [92] = some (w ++ [92]) := app_ok (by simp; omega)
    have b2 : Str.app? (w ++ [92]) [hexB (c.toNat / 16)] = some (w ++ [92] ++ [hexB (c.toNat / 16)]) := app_ok (by simp; omega)
    have b3 : Str.app? (w ++ [92] ++ [hexB (c.toNat / 16)]) [hexB (c.toNat % 16)] = some (w ++ [92] ++ [hexB (c.toNat / 16)] ++ [hexB (c.toNat % 16)]) := app_ok (by simp; omega)
    rw [bnd b1, bnd c1, bnd c1, bnd c5, bnd b2, c2, bnd c6, bnd b3]
    simp [List.append_assoc]
  obtain ⟨q, hq⟩ := f22L k s hs j n (i + 1) (w ++ escB c) (by omega) (by omega) (by have := escB_len c; simp only [List.length_append]; omega)
  refine ⟨q, ?_⟩
  rw [F22_L0, if_pos (decide_eq_true (by simp only [Str.len]; omega)), bnd ha, bnd hstep, ad_nat (by omega), hq, hd]
  simp [escS, List.append_assoc]

theorem f22 {k : Nat} (s : Str) (hs : s.length ≤ 1000) (hk : s.length < k) : F22 k s = some (escS s) := by
 obtain ⟨q, hq⟩ := f22L k s hs s.length k 0 [] (by omega) hk (by simp; omega)
 rw [List.drop_zero] at hq
 have hq' : F22_L0 k s k [] 0 = some ([] ++ escS s, q) := hq
 unfold F22
 rw [bnd hq']
 rfl
end Go.Proofs.Ythkjepoaddfoiaa.M
