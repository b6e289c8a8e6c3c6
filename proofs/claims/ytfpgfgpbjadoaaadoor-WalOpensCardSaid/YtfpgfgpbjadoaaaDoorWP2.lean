/- The reference reads the same. -/
import Derived.Test.YtfpgfgpbjadoaaaDoorWP1
namespace Go.Proofs.YtfpgfgpbjadoaaaDoor.M
set_option linter.unusedVariables false
set_option linter.unusedSimpArgs false
open Go Go.Pam
set_option maxRecDepth 4000
theorem or32 (i m b : Nat) (hm : 2 ^ i * m + b < 4294967296) (hb : b < 2 ^ i) : bOr .u32 ((2 ^ i * m : Nat) : Int) (b : Int) = ((2 ^ i * m + b : Nat) : Int) := by
  unfold bOr
  have h2 : (BitVec.ofInt IntKind.u32.bits ((2 ^ i * m : Nat) : Int) ||| BitVec.ofInt IntKind.u32.bits (b : Int)).toNat = 2 ^ i * m + b := by
    rw [BitVec.toNat_or]
    have e1 : (BitVec.ofInt IntKind.u32.bits ((2 ^ i * m : Nat) : Int)).toNat = 2 ^ i * m := by
      rw [BitVec.ofInt_natCast, BitVec.toNat_ofNat]
      exact Nat.mod_eq_of_lt (by show 2 ^ i * m < 4294967296; omega)
    have e2 : (BitVec.ofInt IntKind.u32.bits (b : Int)).toNat = b := by
      rw [BitVec.ofInt_natCast, BitVec.toNat_ofNat]
      exact Nat.mod_eq_of_lt (by show b < 4294967296; omega)
    rw [e1, e2, Nat.two_pow_add_eq_or_of_lt hb]
  rw [h2, IntWalk.u32_in _ (by omega)]
theorem shl32 (c : UInt8) (y : Int) (d : Nat) (h0 : 0 ≤ y) (hd : (2 : Int) ^ (min y.toNat IntKind.u32.bits) = (d : Nat)) (h : d * 255 < 4294967296) : shl? .u32 (cv .u32 (c.toNat : Int)) y = some ((d * c.toNat : Nat) : Int) := by
  have hc := c.toNat_lt
  unfold shl? cv
  rw [if_neg (by omega), hd, IntWalk.u32_in (c.toNat : Int) (by omega)]
  have h1 : ((c.toNat : Int)) * (d : Int) = ((d * c.toNat : Nat) : Int) := by rw [Int.mul_comm]; simp
  have h2 : d * c.toNat ≤ d * 255 := Nat.mul_le_mul_left _ (by omega)
  rw [h1, IntWalk.u32_in _ (by omega)]
theorem four (c d e f : UInt8) : bOr .u32 (bOr .u32 (bOr .u32 ((16777216 * c.toNat : Nat) : Int) ((65536 * d.toNat : Nat) : Int)) ((256 * e.toNat : Nat) : Int)) (cv .u32 (f.toNat : Int)) = ((16777216 * c.toNat + 65536 * d.toNat + 256 * e.toNat + f.toNat : Nat) : Int) := by
  have hc := c.toNat_lt
  have hd := d.toNat_lt
  have he := e.toNat_lt
  have hf := f.toNat_lt
  have e0 : cv .u32 (f.toNat : Int) = (f.toNat : Int) := IntWalk.u32_in _ (by omega)
  have h1 := or32 24 c.toNat (65536 * d.toNat) (by omega) (by omega)
  have h2 := or32 16 (256 * c.toNat + d.toNat) (256 * e.toNat) (by omega) (by omega)
  have h3 := or32 8 (65536 * c.toNat + 256 * d.toNat + e.toNat) f.toNat (by omega) (by omega)
  rw [show (2 : Nat) ^ 24 * c.toNat = 16777216 * c.toNat by omega] at h1
  rw [show (2 : Nat) ^ 16 * (256 * c.toNat + d.toNat) = 16777216 * c.toNat + 65536 * d.toNat by omega] at h2
  rw [show (2 : Nat) ^ 8 * (65536 * c.toNat + 256 * d.toNat + e.toNat) = 16777216 * c.toNat + 65536 * d.toNat + 256 * e.toNat by omega] at h3
  rw [e0, h1, h2, h3]
theorem hdr_iff (s : Str) (a b c d e f : UInt8) (hl : s.length = 256 * a.toNat + b.toNat) :
    hdr s = [a, b, c, d, e, f] ↔ sumN s = 16777216 * c.toNat + 65536 * d.toNat + 256 * e.toNat + f.toNat := by
  have ha := a.toNat_lt
  have hb := b.toNat_lt
  have hc := c.toNat_lt
  have hd := d.toNat_lt
  have he := e.toNat_lt
  have hf := f.toNat_lt
  have hs := sumN_lt s
  have q : ∀ (n : Nat) (z : UInt8), UInt8.ofNat n = z ↔ n % 256 = z.toNat := fun n z => by
    constructor
    · intro h; rw [← h, UInt8.toNat_ofNat']
    · intro h; apply UInt8.toNat.inj; rw [UInt8.toNat_ofNat']; exact h
  unfold hdr
  simp only [List.cons.injEq, and_true, q]
  constructor
  · rintro ⟨h1, h2, h3, h4, h5, h6⟩; omega
  · intro h; omega
theorem f9L (k : Nat) (s : Str) (hs : s.length ≤ 60000) (hk : s.length < k) : ∀ (m fuel p : Nat) (x : Sl Str), m < fuel → p + m = s.length → x.l.length + m ≤ 1000000 →
    ∃ X o, F9_L0 k s fuel x (p : Int) = some o ∧ (o = .ret (X, ((scanN fuel p (s.drop p)).2.1 : Int), (scanN fuel p (s.drop p)).2.2) ∨ o = .brk (X, ((scanN fuel p (s.drop p)).2.1 : Int)) ∧ (scanN fuel p (s.drop p)).2.2 = 0) ∧ X.l = x.l ++ (scanN fuel p (s.drop p)).1 := by
  intro m
  induction m using Nat.strongRecOn with
  | ind m ih =>
    intro fuel p x hf hp hx
    obtain ⟨g, rfl⟩ : ∃ f, fuel = f + 1 := ⟨fuel - 1, by omega⟩
    have hd : (s.drop p).length = m := by rw [List.length_drop]; omega
    have e0 : ad .i64 (p : Int) 6 = ((p + 6 : Nat) : Int) := by rw [ad64 (by omega)]; omega
    rw [F9_L0, e0, Str.len_nat]
    by_cases h6 : (s.drop p).length < 6
    · rw [short6 h6, if_neg (by simp; omega)]
      exact ⟨x, _, rfl, .inr ⟨rfl, rfl⟩, by simp⟩
    obtain ⟨a, b, c, d, e, f, r, hr⟩ := long6 h6
    have hdr6 : r.length + 6 = m := by rw [hr] at hd; simpa using hd
    rw [if_pos (by simp; omega)]
    have at_ : ∀ (i : Nat) (z : UInt8), (s.drop p)[i]? = some z → Str.at? s ((p + i : Nat) : Int) = some (z.toNat : Int) := fun i z h => by
      rw [Str.at?_nat]
      rw [List.getElem?_drop] at h
      rw [h]; rfl
    have a0 := at_ 0 a (by rw [hr]; rfl)
    have a1 := at_ 1 b (by rw [hr]; rfl)
    have a2 := at_ 2 c (by rw [hr]; rfl)
    have a3 := at_ 3 d (by rw [hr]; rfl)
    have a4 := at_ 4 e (by rw [hr]; rfl)
    have a5 := at_ 5 f (by rw [hr]; rfl)
    have q : ∀ i : Nat, i < 10 → ad .i64 (p : Int) (i : Int) = ((p + i : Nat) : Int) := fun i hi => by rw [ad64 (by omega)]; omega
    have ha := a.toNat_lt
    have hb := b.toNat_lt
    have s2 : shl? .i64 (cv .i64 (a.toNat : Int)) 8 = some (256 * cv .i64 (a.toNat : Int)) := shl64_8 (by rw [cv64 (by omega)]; omega)
    rw [Nat.add_zero] at a0
    rw [bnd a0, bnd s2, show (1 : Int) = ((1 : Nat) : Int) from rfl, q 1 (by omega), bnd a1, len2, hr, scanN]
    generalize hn : 256 * a.toNat + b.toNat = n
    have hn' : n < 65536 := by omega
    have e3 : ad .i64 ((p + 6 : Nat) : Int) (n : Int) = ((p + 6 + n : Nat) : Int) := by rw [ad64 (by omega)]; omega
    rw [e3]
    by_cases h1 : r.length < n
    · rw [if_pos (by simp; omega), if_pos h1]; exact ⟨x, _, rfl, .inl rfl, by simp⟩
    rw [if_neg (by simp; omega), if_neg h1]
    have hl : (r.take n).length = n := by rw [List.length_take]; omega
    have e4 : Str.sub? s ((p + 6 : Nat) : Int) ((p + 6 + n : Nat) : Int) = some (r.take n) := by
      rw [Str.sub?_nat (by omega) (by omega)]
      congr 1
      rw [List.drop_take, show p + 6 + n - (p + 6) = n by omega]
      congr 1
      rw [← List.drop_drop, hr]; rfl
    have s3 := shl32 c 24 16777216 (by omega) (by decide) (by omega)
    have s4 := shl32 d 16 65536 (by omega) (by decide) (by omega)
    have s5 := shl32 e 8 256 (by omega) (by decide) (by omega)
    rw [bnd e4, show (2 : Int) = ((2 : Nat) : Int) from rfl, q 2 (by omega), bnd a2, bnd s3, show (3 : Int) = ((3 : Nat) : Int) from rfl, q 3 (by omega), bnd a3, bnd s4, show (4 : Int) = ((4 : Nat) : Int) from rfl, q 4 (by omega), bnd a4, bnd s5,
      show (5 : Int) = ((5 : Nat) : Int) from rfl, q 5 (by omega), bnd a5, bnd (F11_eq k (r.take n) (by omega) (by omega)), sumS_eq, four]
    have hi := hdr_iff (r.take n) a b c d e f (by rw [hl, hn])
    by_cases h2 : hdr (r.take n) = [a, b, c, d, e, f]
    · rw [if_neg (by rw [hi.1 h2]; simp), if_pos h2]
      obtain ⟨z, hz, hzl⟩ := Sl.app?_l (bytes := 16) (x := x) (ys := [r.take n]) (by simp; omega)
      rw [Sl.l_some, bnd hz]
      obtain ⟨X, o, hX, ho, hl⟩ := ih (m - 6 - n) (by omega) g (p + 6 + n) z (by omega) (by omega) (by rw [hzl, List.length_append]; simp; omega)
      have e3 : s.drop (p + 6 + n) = r.drop n := by
        rw [Nat.add_assoc, ← List.drop_drop, hr, show 6 + n = n + 1 + 1 + 1 + 1 + 1 + 1 by omega]; simp
      rw [e3] at ho hl
      refine ⟨X, o, hX, ho, ?_⟩
      rw [hl, hzl]; simp
    · have h2' : ¬ sumN (r.take n) = 16777216 * c.toNat + 65536 * d.toNat + 256 * e.toNat + f.toNat := fun h => h2 (hi.2 h)
      rw [if_pos (by simp only [bne_iff_ne, ne_eq]; omega), if_neg h2]
      by_cases h3 : r.length = n
      · rw [if_pos (by simp; omega), if_pos h3]; exact ⟨x, _, rfl, .inl rfl, by simp⟩
      · rw [if_neg (by simp; omega), if_neg h3]; exact ⟨x, _, rfl, .inl rfl, by simp⟩
theorem scan_len : ∀ (m p : Nat) (s : Str), s.length < 100000 → (scanN m p s).1.length < 100000
  | 0, _, _, _ => by rw [scanN]; simp
  | m + 1, p, s, h => by
    by_cases h6 : s.length < 6
    · rw [short6 h6]; simp
    obtain ⟨a, b, c, d, e, f, r, rfl⟩ := long6 h6
    have h' : r.length + 1 + 1 + 1 + 1 + 1 + 1 < 100000 := h
    exact Nat.lt_of_le_of_lt (scan_le _ _ _) h
  where
  scan_le : ∀ (m p : Nat) (s : Str), (scanN m p s).1.length ≤ s.length
    | 0, _, _ => by rw [scanN]; simp
    | m + 1, p, s => by
      by_cases h6 : s.length < 6
      · rw [short6 h6]; simp
      obtain ⟨a, b, c, d, e, f, r, rfl⟩ := long6 h6
      rw [scanN]
      split
      · simp
      split
      · have := scan_le m (p + 6 + (256 * a.toNat + b.toNat)) (r.drop (256 * a.toNat + b.toNat))
        rw [List.length_drop] at this
        simp only [List.length_cons]; omega
      split <;> simp
theorem F9_eq (k : Nat) (s : Str) (hs : s.length ≤ 60000) (hk : s.length < k) : ∃ X : Sl Str, F9 k s = some (X, ((scanN k 0 s).2.1 : Int), (scanN k 0 s).2.2) ∧ X.l = (scanN k 0 s).1 := by
  obtain ⟨X, o, h, ho, hl⟩ := f9L k s hs hk s.length k 0 none (by omega) (by omega) (by simp [Sl.l]; omega)
  rw [show ((0 : Nat) : Int) = 0 from rfl] at h
  rw [List.drop_zero] at hl ho
  refine ⟨X, ?_, by simpa [Sl.l] using hl⟩
  unfold F9
  rw [bnd h]
  rcases ho with rfl | ⟨rfl, hz⟩
  · rfl
  · rw [hz]
theorem f14L' (k : Nat) (x y : Sl Str) (hl : x.l = y.l) (hb : x.l.length < 1000000) : ∀ (j fuel i : Nat), i + j = x.l.length → j < fuel → F14_L0 k x y fuel i = some (.brk (x.l.length : Int)) := by
  intro j
  induction j with
  | zero =>
    intro fuel i hi hf
    obtain ⟨f, rfl⟩ : ∃ f, fuel = f + 1 := ⟨fuel - 1, by omega⟩
    rw [F14_L0, if_neg (by rw [Sl.len_nat]; simp; omega)]
    obtain rfl : i = x.l.length := by omega
    rfl
  | succ j ih =>
    intro fuel i hi hf
    obtain ⟨f, rfl⟩ : ∃ f, fuel = f + 1 := ⟨fuel - 1, by omega⟩
    have hlt : i < x.l.length := by omega
    have e1 : Sl.at? x (i : Int) = some (x.l[i]) := by rw [Sl.at?_nat, List.getElem?_eq_getElem hlt]
    have e2 : Sl.at? y (i : Int) = some (x.l[i]) := by rw [Sl.at?_nat, ← hl, List.getElem?_eq_getElem hlt]
    rw [F14_L0, if_pos (by rw [Sl.len_nat]; simp; omega), bnd e1, bnd e2, if_neg (by simp), ad_nat (by omega)]
    exact ih f (i + 1) (by omega) (by omega)
theorem F14_same (k : Nat) (x y : Sl Str) (hl : x.l = y.l) (hb : x.l.length < 1000000) (hk : x.l.length < k) : F14 k x y = some true := by
  unfold F14
  rw [if_neg (by simp [Sl.len, hl])]
  have := f14L' k x y hl hb x.l.length k 0 (by omega) hk
  rw [show ((0 : Nat) : Int) = 0 from rfl] at this
  rw [bnd this]
end Go.Proofs.YtfpgfgpbjadoaaaDoor.M
