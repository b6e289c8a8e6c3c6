/- Plain laws of sums, records, what is read. -/
import Derived.Test.YtecimmaoilignaaGreatDoorSDs
import Derived.Test.YtecimmaoilignaaGreatDoorPamM3
namespace Go.Proofs.YtecimmaoilignaaGreatDoor.M.L
set_option linter.unusedVariables false
set_option linter.unusedSimpArgs false
open Go Go.Pam
set_option maxRecDepth 4000
def stp (h : Int) (c : UInt8) : Int := ml .u32 (bXor .u32 h (cv .u32 c.toNat)) 16777619
def sumS (s : Str) : Int := s.foldl stp 2166136261
theorem stp_in (h : Int) (c : UInt8) : 0 ≤ stp h c ∧ stp h c < 4294967296 := by
  unfold stp ml
  rw [IntKind.wrap_u32]; omega
theorem fold_in : ∀ (s : Str) (h : Int), 0 ≤ h ∧ h < 4294967296 → 0 ≤ s.foldl stp h ∧ s.foldl stp h < 4294967296
  | [], _, hh => hh
  | c :: s, h, _ => by rw [List.foldl_cons]; exact fold_in s _ (stp_in h c)
theorem sum_in (s : Str) : 0 ≤ sumS s ∧ sumS s < 4294967296 := fold_in s _ (by decide)
theorem f10L (k : Nat) (s : Str) : ∀ (j fuel i : Nat) (z : Int), i + j = s.length → j < fuel → s.length < 1000000 →
    F140_L0 k (Str.bytes s) (Sl.len (Str.bytes s)) fuel z i = some ((s.drop i).foldl stp z, (s.length : Int)) := by
  intro j
  induction j with
  | zero =>
    intro fuel i z hi hf hs
    obtain ⟨f, rfl⟩ : ∃ f, fuel = f + 1 := ⟨fuel - 1, by omega⟩
    obtain rfl : i = s.length := by omega
    rw [F140_L0, if_neg (by simp [Sl.len, Str.bytes, Sl.l])]
    simp
  | succ j ih =>
    intro fuel i z hi hf hs
    obtain ⟨f, rfl⟩ : ∃ f, fuel = f + 1 := ⟨fuel - 1, by omega⟩
    have hlt : i < s.length := by omega
    have e2 : Sl.at? (Str.bytes s) (i : Int) = some (((s[i]).toNat : Nat) : Int) := by
      rw [Sl.at?_nat, Str.bytes_l]; simp [List.getElem?_eq_getElem hlt]
    rw [F140_L0, if_pos (by simp [Sl.len, Str.bytes, Sl.l]; omega), bnd e2, ad_nat (by omega), List.drop_eq_getElem_cons hlt, List.foldl_cons]
    exact ih f (i + 1) _ (by omega) (by omega) hs
theorem F140_eq (k : Nat) (s : Str) (hk : s.length < k) (hs : s.length < 1000000) : F140 k s = some (sumS s) := by
  unfold F140
  have := f10L k s s.length k 0 2166136261 (by omega) (by omega) hs
  rw [show ((0 : Nat) : Int) = 0 from rfl] at this
  rw [bnd this, List.drop_zero]; rfl
def sumN (s : Str) : Nat := (sumS s).toNat
theorem sumS_eq (s : Str) : sumS s = (sumN s : Int) := by have := sum_in s; unfold sumN; omega
/-- A record's head. -/
def hdr (s : Str) : Str := [UInt8.ofNat (s.length / 256), UInt8.ofNat s.length, UInt8.ofNat (sumN s / 16777216), UInt8.ofNat (sumN s / 65536), UInt8.ofNat (sumN s / 256), UInt8.ofNat (sumN s)]
theorem cv8n (n : Nat) : UInt8.ofNat (cv .u8 (n : Int)).toNat = UInt8.ofNat n := by
  unfold cv
  rw [IntKind.wrap_u8]
  apply UInt8.toNat.inj
  rw [UInt8.toNat_ofNat', UInt8.toNat_ofNat']
  omega
theorem shr_nat (k : IntKind) (n : Nat) (y : Int) (d : Nat) (h0 : 0 ≤ y) (hd : (2 : Int) ^ (min y.toNat k.bits) = (d : Nat)) : shr? k (n : Int) y = some ((n / d : Nat) : Int) := by
  unfold shr?
  rw [if_neg (by omega), hd, Int.fdiv_eq_ediv_of_nonneg _ (by omega)]
  simp
theorem hdr_eq (s : Str) : Str.of (some [cv .u8 ((s.length / 256 : Nat) : Int), cv .u8 (s.length : Int), cv .u8 ((sumN s / 16777216 : Nat) : Int), cv .u8 ((sumN s / 65536 : Nat) : Int), cv .u8 ((sumN s / 256 : Nat) : Int), cv .u8 (sumN s : Int)]) = hdr s := by
  simp only [Str.of, Sl.l, Option.getD_some, List.map_cons, List.map_nil, cv8n]
  rfl
theorem F95_eq (k : Nat) (s : Str) (hk : s.length < k) (hs : s.length ≤ 60000) : F95 k s = some (hdr s ++ s) := by
  unfold F95
  have e0 : imin (Str.len s) 60000 = (s.length : Int) := by unfold imin Str.len; split <;> omega
  have e1 : Str.sub? s 0 (s.length : Int) = some s := by
    have := Str.sub?_nat (s := s) (l := 0) (h := s.length) (by omega) (by omega)
    simpa using this
  have e3 : shr? .i64 (Str.len s) 8 = some ((s.length / 256 : Nat) : Int) := shr_nat .i64 s.length 8 256 (by omega) (by decide)
  have e4 : shr? .u32 (sumN s : Int) 24 = some ((sumN s / 16777216 : Nat) : Int) := shr_nat .u32 _ 24 16777216 (by omega) (by decide)
  have e5 : shr? .u32 (sumN s : Int) 16 = some ((sumN s / 65536 : Nat) : Int) := shr_nat .u32 _ 16 65536 (by omega) (by decide)
  have e6 : shr? .u32 (sumN s : Int) 8 = some ((sumN s / 256 : Nat) : Int) := shr_nat .u32 _ 8 256 (by omega) (by decide)
  rw [e0, bnd e1, bnd (F140_eq k s hk (by omega)), bnd e3, sumS_eq, bnd e4, bnd e5, bnd e6, Str.len_nat, hdr_eq, bnd (Str.app?_ok (by simp [hdr]; omega))]
/-! What is read. -/
def scanN : Nat → Nat → Str → List Str × Nat × Int
  | 0, p, _ => ([], p, 0)
  | m + 1, p, a :: b :: c :: d :: e :: f :: r =>
    if r.length < 256 * a.toNat + b.toNat then ([], p, 0)
    else if hdr (r.take (256 * a.toNat + b.toNat)) = [a, b, c, d, e, f] then
      (r.take (256 * a.toNat + b.toNat) :: (scanN m (p + 6 + (256 * a.toNat + b.toNat)) (r.drop (256 * a.toNat + b.toNat))).1, (scanN m (p + 6 + (256 * a.toNat + b.toNat)) (r.drop (256 * a.toNat + b.toNat))).2)
    else if r.length = 256 * a.toNat + b.toNat then ([], p, 0)
    else ([], p, 24)
  | _ + 1, p, _ => ([], p, 0)
theorem short6 {s : Str} (h : s.length < 6) (m p : Nat) : scanN m p s = ([], p, 0) := by
  match m, s, h with
  | 0, _, _ => rfl
  | _ + 1, [], _ => rfl
  | _ + 1, [_], _ => rfl
  | _ + 1, [_, _], _ => rfl
  | _ + 1, [_, _, _], _ => rfl
  | _ + 1, [_, _, _, _], _ => rfl
  | _ + 1, [_, _, _, _, _], _ => rfl
  | _ + 1, _ :: _ :: _ :: _ :: _ :: _ :: r, h => have h : r.length + 1 + 1 + 1 + 1 + 1 + 1 < 6 := h; omega
theorem long6 {s : Str} (h : ¬ s.length < 6) : ∃ a b c d e f r, s = a :: b :: c :: d :: e :: f :: r := by
  match s, h with
  | [], h => exact absurd (by decide) h
  | [_], h => exact absurd (by simp) h
  | [_, _], h => exact absurd (by simp) h
  | [_, _, _], h => exact absurd (by simp) h
  | [_, _, _, _], h => exact absurd (by simp) h
  | [_, _, _, _, _], h => exact absurd (by simp) h
  | a :: b :: c :: d :: e :: f :: r, _ => exact ⟨a, b, c, d, e, f, r, rfl⟩
theorem F108_short (k : Nat) (s : Str) (p : Int) (h : s.length < 6) : F108 k s p = some ([], Er.at 29 p) := by
  unfold F108
  rw [if_pos (decide_eq_true (by show ((s.length : Nat) : Int) < 6; omega))]
theorem len2 (a b : UInt8) : bOr .i64 (256 * (cv .i64 (a.toNat : Int))) (cv .i64 (b.toNat : Int)) = ((256 * a.toNat + b.toNat : Nat) : Int) := by
  have ha := a.toNat_lt
  have hb := b.toNat_lt
  rw [cv64 (by omega), cv64 (by omega), or64_byte (by omega) (by omega)]
  omega
theorem F108_long (k : Nat) (a b c d e f : UInt8) (r : Str) (p : Int) (hk : r.length < k) (hr : r.length ≤ 60000) : F108 k (a :: b :: c :: d :: e :: f :: r) p =
    if r.length < 256 * a.toNat + b.toNat then some ([], Er.at 29 p)
    else if hdr (r.take (256 * a.toNat + b.toNat)) = [a, b, c, d, e, f] then some (r.take (256 * a.toNat + b.toNat), Er.nil)
    else if r.length = 256 * a.toNat + b.toNat then some ([], Er.at 29 p)
    else some ([], Er.at 24 p) := by
  unfold F108
  have ha := a.toNat_lt
  have hb := b.toNat_lt
  have hlen : Str.len (a :: b :: c :: d :: e :: f :: r) = ((r.length + 6 : Nat) : Int) := rfl
  have e0 : Str.at? (a :: b :: c :: d :: e :: f :: r) 0 = some (a.toNat : Int) := rfl
  have e1 : Str.at? (a :: b :: c :: d :: e :: f :: r) 1 = some (b.toNat : Int) := rfl
  have e2 : shl? .i64 (cv .i64 (a.toNat : Int)) 8 = some (256 * cv .i64 (a.toNat : Int)) := shl64_8 (by rw [cv64 (by omega)]; omega)
  rw [hlen, if_neg (by simp; omega), bnd e0, bnd e2, bnd e1, len2]
  generalize hn : 256 * a.toNat + b.toNat = n
  have hn' : n < 65536 := by omega
  have e3 : ad .i64 6 (n : Int) = ((6 + n : Nat) : Int) := by rw [ad64 (by omega)]; omega
  rw [e3]
  by_cases h1 : r.length < n
  · rw [if_pos (by simp; omega), if_pos h1]
  rw [if_neg (by simp; omega), if_neg h1]
  have e4 : Str.sub? (a :: b :: c :: d :: e :: f :: r) 6 ((6 + n : Nat) : Int) = some (r.take n) := by
    have := Str.sub?_nat (s := a :: b :: c :: d :: e :: f :: r) (l := 6) (h := 6 + n) (by omega) (by simp; omega)
    rw [show ((6 : Nat) : Int) = 6 from rfl] at this
    rw [this, show 6 + n = n + 1 + 1 + 1 + 1 + 1 + 1 by omega]
    simp
  have hl : (r.take n).length = n := by rw [List.length_take]; omega
  have e5 : Str.sub? (hdr (r.take n) ++ r.take n) 0 6 = some (hdr (r.take n)) := by
    have := Str.sub?_nat (s := hdr (r.take n) ++ r.take n) (l := 0) (h := 6) (by omega) (by simp [hdr])
    rw [show ((6 : Nat) : Int) = 6 from rfl, show ((0 : Nat) : Int) = 0 from rfl] at this
    rw [this]; simp [hdr]
  have e6 : Str.sub? (a :: b :: c :: d :: e :: f :: r) 0 6 = some [a, b, c, d, e, f] := by
    have := Str.sub?_nat (s := a :: b :: c :: d :: e :: f :: r) (l := 0) (h := 6) (by omega) (by simp)
    rw [show ((6 : Nat) : Int) = 6 from rfl, show ((0 : Nat) : Int) = 0 from rfl] at this
    rw [this]; simp
  rw [bnd e4, bnd (F95_eq k (r.take n) (by omega) (by omega)), bnd e5, bnd e6]
  by_cases h2 : hdr (r.take n) = [a, b, c, d, e, f]
  · rw [if_pos (by rw [h2]; simp), if_pos h2]
  rw [if_neg (by simpa using h2), if_neg h2]
  by_cases h3 : r.length = n
  · rw [if_pos (by simp; omega), if_pos h3]
  · rw [if_neg (by simp; omega), if_neg h3]
theorem f8L (k : Nat) (s : Str) (hs : s.length ≤ 60000) (hk : s.length < k) : ∀ (m fuel p : Nat) (x : Sl Str), m < fuel → p + m = s.length → x.l.length + m ≤ 1000000 →
    ∃ X, F64_L0 k s fuel x (p : Int) = some (.ret (X, ((scanN fuel p (s.drop p)).2.1 : Int), (scanN fuel p (s.drop p)).2.2)) ∧ X.l = x.l ++ (scanN fuel p (s.drop p)).1 := by
  intro m
  induction m using Nat.strongRecOn with
  | ind m ih =>
    intro fuel p x hf hp hx
    obtain ⟨g, rfl⟩ : ∃ f, fuel = f + 1 := ⟨fuel - 1, by omega⟩
    have e1 : Str.sub? s (p : Int) (Str.len s) = some (s.drop p) := by
      rw [Str.len_nat, Str.sub?_nat (by omega) (by omega), List.take_length]
    have hd : (s.drop p).length = m := by rw [List.length_drop]; omega
    rw [F64_L0, bnd e1]
    by_cases h6 : (s.drop p).length < 6
    · rw [short6 h6, bnd (F108_short k _ _ h6)]
      exact ⟨x, rfl, by simp⟩
    obtain ⟨a, b, c, d, e, f, r, hr⟩ := long6 h6
    have hdr6 : r.length + 6 = m := by rw [hr] at hd; simpa using hd
    rw [hr, F108_long k a b c d e f r p (by omega) (by omega), scanN]
    generalize hn : 256 * a.toNat + b.toNat = n
    have ha := a.toNat_lt
    have hb := b.toNat_lt
    have hn' : n < 65536 := by omega
    by_cases h1 : r.length < n
    · rw [if_pos h1, if_pos h1]; exact ⟨x, rfl, by simp⟩
    rw [if_neg h1, if_neg h1]
    by_cases h2 : hdr (r.take n) = [a, b, c, d, e, f]
    · rw [if_pos h2, if_pos h2, bind_some']
      obtain ⟨z, hz, hzl⟩ := Sl.app?_l (bytes := 16) (x := x) (ys := [r.take n]) (by simp; omega)
      have hl : (r.take n).length = n := by rw [List.length_take]; omega
      have e2 : ad .i64 (p : Int) (ad .i64 6 (Str.len (r.take n))) = ((p + 6 + n : Nat) : Int) := by
        rw [Str.len_nat, hl, ad64 (x := 6) (by omega), ad64 (by omega)]; omega
      dsimp only
      rw [Sl.l_some, bnd hz, e2]
      obtain ⟨X, hX, hl⟩ := ih (m - 6 - n) (by omega) g (p + 6 + n) z (by omega) (by omega) (by rw [hzl, List.length_append]; simp; omega)
      have e3 : s.drop (p + 6 + n) = r.drop n := by
        rw [Nat.add_assoc, ← List.drop_drop, hr, show 6 + n = n + 1 + 1 + 1 + 1 + 1 + 1 by omega]; simp
      rw [e3] at hX hl
      refine ⟨X, hX, ?_⟩
      rw [hl, hzl]; simp
    · rw [if_neg h2, if_neg h2]
      by_cases h3 : r.length = n
      · rw [if_pos h3, if_pos h3]; exact ⟨x, rfl, by simp⟩
      · rw [if_neg h3, if_neg h3]; exact ⟨x, rfl, by simp⟩
theorem F64_eq (k : Nat) (s : Str) (hs : s.length ≤ 60000) (hk : s.length < k) : ∃ X : Sl Str, F64 k s = some (X, ((scanN k 0 s).2.1 : Int), (scanN k 0 s).2.2) ∧ X.l = (scanN k 0 s).1 := by
  obtain ⟨X, h, hl⟩ := f8L k s hs hk s.length k 0 none (by omega) (by omega) (by simp [Sl.l]; omega)
  rw [List.drop_zero, show ((0 : Nat) : Int) = 0 from rfl] at h
  rw [List.drop_zero] at hl
  refine ⟨X, ?_, by simpa [Sl.l] using hl⟩
  unfold F64
  rw [bnd h]
end Go.Proofs.YtecimmaoilignaaGreatDoor.M.L
