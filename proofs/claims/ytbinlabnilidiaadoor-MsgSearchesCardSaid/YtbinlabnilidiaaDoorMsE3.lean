/- Messages as elements: numbers. -/
import Derived.Test.YtbinlabnilidiaaDoorMsE2
import Derived.Test.YtbinlabnilidiaaDoorMsS
namespace Go.Proofs.YtbinlabnilidiaaDoor.M
open Go Go.Pam
set_option maxRecDepth 20000
set_option linter.unusedVariables false
set_option linter.unusedSimpArgs false

theorem cvu8 (z : Int) : cv .u8 z = z % 256 := by
 unfold cv
 rw [IntKind.wrap_u8]
theorem shr8 (z : Int) (h : 0 ≤ z) : shr? .i64 z 8 = some (z / 256) := by
 show (if (8 : Int) < 0 then none else some (z.fdiv (2 ^ (min (8 : Int).toNat IntKind.i64.bits)))) = _
 rw [if_neg (by omega), show (2 : Int) ^ (min (8 : Int).toNat IntKind.i64.bits) = 256 from rfl, Int.fdiv_eq_ediv_of_nonneg _ (by omega)]

def jb : Nat → Int → List Int → List Int
 | 0, _, xs => xs
 | n + 1, z, xs => if z = 0 ∧ xs.headD 0 < 128 then xs else jb n (z / 256) (z % 256 :: xs)

theorem jb_cons (n : Nat) (z x : Int) (xs : List Int) : jb (n + 1) z (x :: xs) = if z = 0 ∧ x < 128 then x :: xs else jb n (z / 256) (z % 256 :: x :: xs) := rfl

theorem and128_all : (List.range 256).all (fun n => (bAnd .u8 (n : Int) 128 != 0) == decide (128 ≤ n)) = true := by decide +kernel
theorem and128 {y : Int} (h : 0 ≤ y ∧ y < 256) : (bAnd .u8 y 128 != 0) = decide (128 ≤ y) := by
 have h1 := List.all_eq_true.1 and128_all y.toNat (by simp; omega)
 rw [beq_iff_eq, Int.toNat_of_nonneg h.1] at h1
 rw [h1, decide_eq_decide]; omega

theorem jb_loops (k : Nat) : ∀ (j n m : Nat) (z x : Int) (xs : List Int), j + 1 ≤ m → j + 2 ≤ n → 0 ≤ z → z < 256 ^ j → 0 ≤ x → x < 256 → xs.length + j ≤ 100 →
  F34_L0 k n (some (x :: xs)) z = some (.ret (Str.of (some (jb m z (x :: xs))))) ∧ ∃ q, R83_L0 k n (some (x :: xs)) z = some (some (jb m z (x :: xs)), q) := by
 have step : ∀ (n : Nat) (z x : Int) (xs : List Int), 0 ≤ z → 0 ≤ x → x < 256 → xs.length ≤ 1000 →
   (z = 0 ∧ x < 128 → F34_L0 k (n + 1) (some (x :: xs)) z = some (.ret (Str.of (some (x :: xs)))) ∧ R83_L0 k (n + 1) (some (x :: xs)) z = some (some (x :: xs), z)) ∧
   (¬ (z = 0 ∧ x < 128) → F34_L0 k (n + 1) (some (x :: xs)) z = F34_L0 k n (some (z % 256 :: x :: xs)) (z / 256) ∧ R83_L0 k (n + 1) (some (x :: xs)) z = R83_L0 k n (some (z % 256 :: x :: xs)) (z / 256)) := by
  intro n z x xs hz hx0 hx1 hl
  have e0 : Sl.at? (some (x :: xs)) 0 = some x := rfl
  have ea : Sl.app? 1 (some [cv .u8 z]) (Sl.l (some (x :: xs))) = some (some (z % 256 :: x :: xs)) := by
   rw [cvu8, Sl.app?_ok (by simp [Sl.l]) (by simp [Sl.l]; omega)]
   rfl
  constructor
  ·rintro ⟨rfl, h⟩
   have h128 : decide (128 ≤ x) = false := decide_eq_false (by omega)
   constructor
   ·rw [F34_L0, bnd e0, and128 ⟨hx0, hx1⟩, h128]
    rfl
   ·rw [R83_L0, ite_pos' (by rfl), bnd e0]
    have : decide (x < 128) = true := decide_eq_true h
    simp [this]
  ·intro h
   constructor
   ·rw [F34_L0, bnd e0, and128 ⟨hx0, hx1⟩]
    by_cases hx : 128 ≤ x
    ·rw [decide_eq_true hx, if_pos rfl, bnd rfl, if_neg (by simp; omega), bnd ea, bnd (shr8 z hz)]
    ·rw [decide_eq_false hx, if_neg (by simp), bnd rfl, if_neg (by simp; omega), bnd ea, bnd (shr8 z hz)]
   ·rw [R83_L0]
    have e1 : (z == -1) = false := by simp; omega
    by_cases hz0 : z = 0
    ·subst hz0
     have hd : decide (x < 128) = false := decide_eq_false (by omega)
     rw [if_pos (by rfl), bnd e0, hd, bnd rfl, if_neg (by simp), if_neg (by simp), bnd rfl, bnd rfl, if_pos (by rfl), bnd ea, bnd (shr8 0 (by omega))]
    ·have hz1 : (z == 0) = false := by simpa using hz0
     rw [ite_neg' hz1, bnd rfl, if_neg (by simp), ite_neg' e1, bnd rfl, bnd rfl, if_pos (by rfl), bnd ea, bnd (shr8 z hz)]
 intro j
 induction j with
 | zero =>
  intro n m z x xs hm hn hz hz2 hx0 hx1 hl
  obtain ⟨n, rfl⟩ : ∃ i, n = i + 1 := ⟨n - 1, by omega⟩
  obtain ⟨m, rfl⟩ : ∃ i, m = i + 1 := ⟨m - 1, by omega⟩
  have hz0 : z = 0 := by simp at hz2; omega
  subst hz0
  by_cases hx : x < 128
  ·obtain ⟨a, b⟩ := (step n 0 x xs (by omega) hx0 hx1 (by omega)).1 ⟨rfl, hx⟩
   have hj : jb (m + 1) 0 (x :: xs) = x :: xs := by rw [jb_cons, if_pos ⟨rfl, hx⟩]
   rw [hj]
   exact ⟨a, 0, b⟩
  ·obtain ⟨a, b⟩ := (step n 0 x xs (by omega) hx0 hx1 (by omega)).2 (by omega)
   obtain ⟨n, rfl⟩ : ∃ i, n = i + 1 := ⟨n - 1, by omega⟩
   have hj : jb (m + 1) 0 (x :: xs) = 0 :: x :: xs := by
    rw [jb_cons, if_neg (by omega)]
    cases m with
    | zero => rfl
    | succ m => rw [jb_cons, if_pos (by simp)]; rfl
   obtain ⟨a2, b2⟩ := (step n 0 0 (x :: xs) (by omega) (by omega) (by omega) (by simp; omega)).1 ⟨rfl, by omega⟩
   rw [hj, a, b]
   exact ⟨a2, 0, b2⟩
 | succ j ih =>
  intro n m z x xs hm hn hz hz2 hx0 hx1 hl
  obtain ⟨n, rfl⟩ : ∃ i, n = i + 1 := ⟨n - 1, by omega⟩
  obtain ⟨m, rfl⟩ : ∃ i, m = i + 1 := ⟨m - 1, by omega⟩
  by_cases hc : z = 0 ∧ x < 128
  ·obtain ⟨a, b⟩ := (step n z x xs hz hx0 hx1 (by omega)).1 hc
   have hj : jb (m + 1) z (x :: xs) = x :: xs := by rw [jb_cons, if_pos hc]
   rw [hj]
   exact ⟨a, z, b⟩
  ·obtain ⟨a, b⟩ := (step n z x xs hz hx0 hx1 (by omega)).2 hc
   have hj : jb (m + 1) z (x :: xs) = jb m (z / 256) (z % 256 :: x :: xs) := by rw [jb_cons, if_neg hc]
   rw [hj, a, b]
   refine ih n m (z / 256) (z % 256) (x :: xs) (by omega) (by omega) (by omega) ?_ (by omega) (by omega) (by simp; omega)
   rw [Int.pow_succ] at hz2
   omega

def intS (v : Int) : Str := Str.of (some (jb 4 (v / 256) [v % 256]))

theorem jb_len : ∀ (n : Nat) (z : Int) (xs : List Int), (jb n z xs).length ≤ n + xs.length ∧ xs.length ≤ (jb n z xs).length
 | 0, z, xs => by simp [jb]
 | n + 1, z, xs => by
  rw [jb]
  split
  ·omega
  ·have := jb_len n (z / 256) (z % 256 :: xs)
   simp at this
   omega

theorem intS_len (v : Int) : (intS v).length ≤ 5 ∧ 1 ≤ (intS v).length := by
 have := jb_len 4 (v / 256) [v % 256]
 unfold intS Str.of
 simp [Sl.l] at this ⊢
 omega

theorem int_ok {k : Nat} (hk : 10 ≤ k) {v : Int} (h : 0 ≤ v ∧ v ≤ 2147483647) : F34 k v = some (intS v) ∧ R83 k v = some (intS v) := by
 obtain ⟨a, q, b⟩ := jb_loops k 3 k 4 (v / 256) (v % 256) [] (by omega) (by omega) (by omega) (by omega) (by omega) (by omega) (by simp)
 constructor
 ·unfold F34
  rw [bnd (shr8 v h.1), cvu8, bnd a]
  rfl
 ·unfold R83
  rw [bnd (shr8 v h.1), cvu8, bnd b]
  rfl

end Go.Proofs.YtbinlabnilidiaaDoor.M
