/- Messages: what is read of an element: kids, numbers, rows. -/
import Derived.Test.YtbinlabnilidiaaDoorMsD0
import Derived.Test.YtbinlabnilidiaaDoorMsB2
namespace Go.Proofs.YtbinlabnilidiaaDoor.M
open Go Go.Pam
set_option maxRecDepth 20000
set_option linter.unusedVariables false
set_option linter.unusedSimpArgs false

def row {α : Type} : List α → Sl α
 | [] => none
 | x :: l => some (x :: l)
theorem row_l {α : Type} (l : List α) : Sl.l (row l) = l := by cases l <;> rfl
theorem app_row {α : Type} {b : Nat} {acc : List α} {y : α} (hb : b ≤ 1000) (h : acc.length ≤ 200000) : Sl.app? b (row acc) (Sl.l (some [y])) = some (row (acc ++ [y])) := by
 have h2 : (acc.length + 1) * b ≤ 200001 * 1000 := Nat.mul_le_mul (by omega) hb
 rw [Sl.app?_ok (by simp [Sl.l]) (by rw [row_l]; simp only [Sl.l, Option.getD_some, List.length_singleton]; omega), row_l]
 cases acc <;> rfl

theorem acc_loop {α β : Type} (l : List α) (g : α → β) (Lf : Nat → Sl β → Int → Option (Sl β × Int))
  (h1 : ∀ (n i : Nat) (y : α) (acc : List β), l[i]? = some y → acc.length ≤ 200000 → Lf (n + 1) (row acc) (i : Int) = Lf n (row (acc ++ [g y])) ((i + 1 : Nat) : Int))
  (h2 : ∀ n acc, Lf (n + 1) acc ((l.length : Nat) : Int) = some (acc, ((l.length : Nat) : Int))) :
  ∀ (j n i : Nat) (acc : List β), i + j = l.length → j < n → acc.length + j ≤ 200000 → Lf n (row acc) (i : Int) = some (row (acc ++ (l.drop i).map g), ((l.length : Nat) : Int))
 | j, 0, i, _, _, h, _ => by omega
 | 0, n + 1, i, acc, hij, _, _ => by
  have : i = l.length := by omega
  subst this
  rw [h2, List.drop_eq_nil_of_le (Nat.le_refl _)]; simp
 | j + 1, n + 1, i, acc, hij, hn, ha => by
  have hi : i < l.length := by omega
  rw [h1 n i l[i] acc (List.getElem?_eq_getElem hi) (by omega), acc_loop l g Lf h1 h2 j n (i + 1) _ (by omega) (by omega) (by simp only [List.length_append, List.length_singleton]; omega), List.drop_eq_getElem_cons hi]
  simp only [List.map_cons, List.append_assoc, List.singleton_append]
theorem acc_loop0 {α β : Type} (l : List α) (g : α → β) (Lf : Nat → Sl β → Int → Option (Sl β × Int))
  (h1 : ∀ (n i : Nat) (y : α) (acc : List β), l[i]? = some y → acc.length ≤ 200000 → Lf (n + 1) (row acc) (i : Int) = Lf n (row (acc ++ [g y])) ((i + 1 : Nat) : Int))
  (h2 : ∀ n acc, Lf (n + 1) acc ((l.length : Nat) : Int) = some (acc, ((l.length : Nat) : Int))) {n : Nat} (hn : l.length < n) (hl : l.length ≤ 200000) :
  Lf n none 0 = some (row (l.map g), ((l.length : Nat) : Int)) := by
 have := acc_loop l g Lf h1 h2 l.length n 0 [] (by omega) hn (by simp only [List.length_nil]; omega)
 rw [List.drop_zero, List.nil_append] at this
 exact this

/-! Kids -/
def kidS (e : El) (i : Nat) : El := ((Sl.l e.Kids)[i]?).getD zel
theorem f55 (k : Nat) (e : El) (i : Nat) : F55 k e (i : Int) = some (kidS e i) := by
 unfold F55 kidS
 by_cases h : (Sl.l e.Kids).length ≤ i
 ·rw [if_pos (decide_eq_true (by simp only [Sl.len]; omega)), List.getElem?_eq_none h]; rfl
 ·have hi : i < (Sl.l e.Kids).length := by omega
  rw [if_neg (by simp [Sl.len]; omega), Sl.at?_nat, List.getElem?_eq_getElem hi]
  rfl
theorem eqv_kids {m : Nat} {e f : El} (h : Eqv (m + 1) e f) (i : Nat) (hi : i < (Sl.l e.Kids).length) : Eqv m (kidS e i) (kidS f i) := by
 have hn := h.2.2.len
 have := h.2.2.get i hi (by omega)
 unfold kidS
 rw [List.getElem?_eq_getElem hi, List.getElem?_eq_getElem (by omega)]
 exact this
theorem eqv_len {m : Nat} {e f : El} (h : Eqv (m + 1) e f) : (Sl.l f.Kids).length = (Sl.l e.Kids).length := h.2.2.len.symm
theorem eqv_body : ∀ {m : Nat} {e f : El}, Eqv m e f → f.Body = e.Body
 | _ + 1, _, _, h => h.2.1.symm
theorem eqv_tag : ∀ {m : Nat} {e f : El}, Eqv m e f → f.Tag = e.Tag
 | _ + 1, _, _, h => h.1.symm
theorem eqv_bodies {m : Nat} : ∀ {l r : List El}, All2 (Eqv m) l r → r.map (·.Body) = l.map (·.Body)
 | [], [], _ => rfl
 | a :: l, b :: r, h => by simp only [List.map_cons, eqv_body h.1, eqv_bodies h.2]

/-! Rows of texts -/
theorem f58 {k : Nat} (e : El) (h : (Sl.l e.Kids).length < k) (h2 : (Sl.l e.Kids).length ≤ 200000) : F58 k e = some (row ((Sl.l e.Kids).map (·.Body))) := by
 have hL := acc_loop0 (Sl.l e.Kids) (·.Body) (F58_L0 k e.Kids (Sl.len e.Kids)) (by
  intro n i y acc hy ha
  have hi := lt_of hy
  rw [F58_L0, if_pos (decide_eq_true (by simp only [Sl.len]; omega)), bnd (at_of hy), bnd (app_row (by omega) ha), ad_nat (by omega)]) (by
  intro n acc
  rw [F58_L0, if_neg (by simp [Sl.len])]) h h2
 unfold F58
 rw [bnd hL]

/-! Numbers -/
theorem f73L (k : Nat) (q : Str) (l : Str) (hn : l.length ≤ 5) : ∀ (j fuel i : Nat) (z : Int), i + j = l.length → j < fuel → 0 ≤ z → z < 256 ^ i →
  F73_L4 k q (Str.bytes l) (Sl.len (Str.bytes l)) fuel z i = some ((l.drop i).foldl be z, (l.length : Int)) := by
 intro j
 induction j with
 | zero =>
  intro fuel i z hi hf _ _
  obtain ⟨f, rfl⟩ : ∃ f, fuel = f + 1 := ⟨fuel - 1, by omega⟩
  obtain rfl : i = l.length := by omega
  rw [F73_L4, if_neg (by simp [Sl.len, Str.bytes, Sl.l])]
  simp
 | succ j ih =>
  intro fuel i z hi hf h0 h1
  obtain ⟨f, rfl⟩ : ∃ f, fuel = f + 1 := ⟨fuel - 1, by omega⟩
  have hlt : i < l.length := by omega
  have hc := (l[i]).toNat_lt
  have hp := pow_le4 (k := i) (by omega)
  have e2 : Sl.at? (Str.bytes l) (i : Int) = some (((l[i]).toNat : Nat) : Int) := by
   rw [Sl.at?_nat, Str.bytes_l]
   simp [List.getElem?_eq_getElem hlt]
  have e3 : bOr .i64 (256 * z) (cv .i64 ((l[i]).toNat : Int)) = be z l[i] := by
   rw [cv64 (by omega), or64_byte (by omega) (by omega)]; rfl
  have e4 : shl? .i64 z 8 = some (256 * z) := shl64_8 (by omega)
  have e5 : decide ((i : Int) < Sl.len (Str.bytes l)) = true := by simp [Sl.len, Str.bytes, Sl.l]; omega
  rw [F73_L4, if_pos e5, bnd e2, bnd e4, e3, ad_nat (by omega), ih f (i + 1) (be z l[i]) (by omega) (by omega) (by unfold be; omega) (by unfold be; rw [Int.pow_succ]; omega), List.drop_eq_getElem_cons hlt, List.foldl_cons]

theorem be_acc : ∀ (l : Str) (z : Int), l.foldl be z = z * 256 ^ l.length + l.foldl be 0
 | [], z => by simp
 | b :: l, z => by
  rw [List.foldl_cons, List.foldl_cons, be_acc l (be z b), be_acc l (be 0 b), List.length_cons, Int.pow_succ]
  unfold be
  rw [Int.add_mul, Int.add_mul]
  have : 256 * z * 256 ^ l.length = z * (256 ^ l.length * 256) := by ac_rfl
  omega
def valL (l : List Int) : Int := (Str.of (some l)).foldl be 0
theorem valL_cons {x : Int} (h : 0 ≤ x ∧ x < 256) (l : List Int) : valL (x :: l) = x * 256 ^ l.length + valL l := by
 have e : ((UInt8.ofNat x.toNat).toNat : Int) = x := by rw [UInt8.toNat_ofNat']; omega
 have hl : (Str.of (some l)).length = l.length := by simp [Str.of, Sl.l]
 show ((UInt8.ofNat x.toNat) :: Str.of (some l)).foldl be 0 = _
 rw [List.foldl_cons, be_acc, hl]
 show be 0 _ * _ + valL l = _
 unfold be
 rw [e, Int.mul_zero, Int.zero_add]

theorem jb_val : ∀ (n : Nat) (z x : Int) (xs : List Int), 0 ≤ z → 2 * z < 256 ^ n → (n = 0 → x < 128) → 0 ≤ x → x < 256 →
  valL (jb n z (x :: xs)) = z * 256 ^ (xs.length + 1) + valL (x :: xs) ∧ ∃ y r, jb n z (x :: xs) = y :: r ∧ 0 ≤ y ∧ y < 128
 | 0, z, x, xs, h0, h1, h2, h3, h4 => by
  have hz : z = 0 := by rw [Int.pow_zero] at h1; omega
  subst hz
  exact ⟨by rw [jb]; omega, x, xs, by rw [jb], h3, h2 rfl⟩
 | n + 1, z, x, xs, h0, h1, h2, h3, h4 => by
  rw [jb_cons]
  split
  ·rename_i hc
   obtain ⟨rfl, hx⟩ := hc
   exact ⟨by omega, x, xs, rfl, h3, hx⟩
  ·have hp : 2 * (z / 256) < 256 ^ n := by rw [Int.pow_succ] at h1; omega
   obtain ⟨a, b⟩ := jb_val n (z / 256) (z % 256) (x :: xs) (by omega) hp (by intro hn; subst hn; rw [Int.pow_zero] at hp; rw [Int.pow_succ, Int.pow_zero] at h1; omega) (by omega) (by omega)
   refine ⟨?_, b⟩
   rw [a, valL_cons (x := z % 256) (by omega), List.length_cons, Int.pow_succ 256 (xs.length + 1)]
   have e : z = 256 * (z / 256) + z % 256 := by omega
   generalize z / 256 = q at *
   generalize z % 256 = r at *
   subst e
   rw [Int.add_mul]
   have : 256 * q * 256 ^ (xs.length + 1) = q * (256 ^ (xs.length + 1) * 256) := by ac_rfl
   omega

theorem num_back {k : Nat} (hk : 20 ≤ k) {v : Int} (h : 0 ≤ v ∧ v ≤ 2147483647) : F73 k (intS v) = some (v, true) := by
 obtain ⟨a, y, r, hy, h0, h1⟩ := jb_val 4 (v / 256) (v % 256) [] (by omega) (by omega) (by omega) (by omega) (by omega)
 have hv : (intS v).foldl be 0 = v := by
  have e1 : (intS v).foldl be 0 = valL (jb 4 (v / 256) [v % 256]) := rfl
  have e2 : valL [v % 256] = v % 256 := by rw [valL_cons (by omega)]; simp [valL, Str.of, Sl.l]
  rw [e1, a, e2]
  simp only [List.length_nil, Nat.zero_add, Int.pow_one]
  omega
 have hl := intS_len v
 have hI : intS v = UInt8.ofNat y.toNat :: Str.of (some r) := by unfold intS; rw [hy]; rfl
 have hat : Str.at? (intS v) 0 = some y := by
  have : Str.at? (intS v) ((0 : Nat) : Int) = some y := by
   rw [Str.at?_nat, hI]
   simp only [List.getElem?_cons_zero, Option.map_some, UInt8.toNat_ofNat']
   congr 1
   omega
  exact this
 have c1 : ((intS v == []) || (decide ((Str.len (intS v)) > 8))) = false := by
  rw [Bool.or_eq_false_iff]
  refine ⟨by rw [hI]; rfl, ?_⟩
  have : ¬ (Str.len (intS v) > 8) := by rw [Str.len_nat]; omega
  exact decide_eq_false this
 have hb := and128 (y := y) (by omega)
 rw [show decide (128 ≤ y) = false by simp; omega] at hb
 have hL := f73L k (intS v) (intS v) hl.1 (intS v).length k 0 0 (by omega) (by omega) (by omega) (by decide)
 rw [show ((0 : Nat) : Int) = 0 from rfl, List.drop_zero, hv] at hL
 unfold F73
 rw [ite_neg' c1, bnd hat, ite_neg' hb, bnd rfl]
 simp only
 rw [bnd hL, bnd (int_ok (by omega) h).1]
 simp

theorem f56 {k : Nat} (hk : 20 ≤ k) {m : Nat} {t v : Int} {e : El} (h : 0 ≤ v ∧ v ≤ 2147483647) (he : Eqv m (nm t v) e) : F56 k e = some v := by
 unfold F56
 rw [eqv_body he, show (nm t v).Body = intS v from rfl, bnd (num_back hk h)]
 have c : ((!true) || decide (v < 0) || decide (v > 2147483647)) = false := by simp; omega
 simp only [c]
 rfl
end Go.Proofs.YtbinlabnilidiaaDoor.M
