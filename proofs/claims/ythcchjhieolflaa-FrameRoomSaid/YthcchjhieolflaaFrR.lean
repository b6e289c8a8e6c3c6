/- Part of the proof: the runs of functions on the abstract machine. -/
import Derived.Test.YthcchjhieolflaaFrP
namespace Go.Proofs.Ythcchjhieolflaa.M
open Go Go.Pam
set_option maxRecDepth 20000

theorem of_zeros (n : Nat) : (Str.of (some (List.replicate n 0))).length = n := by
  simp [Str.of, Sl.l]

theorem make_ok (n : Nat) (h : n ≤ 100000) : Sl.make? 1 (n : Int) (0 : Int) = some (some (List.replicate n 0)) := by
  unfold Sl.make?
  rw [if_pos (by omega)]
  rfl

theorem feed_ok (k : Nat) (b s : Str) (h : b.length + s.length ≤ 16000) : F12 k ⟨b⟩ s = some (⟨b ++ s⟩, 0) := by
  unfold F12
  dsimp only
  rw [Str.len_nat, Str.len_nat, sb64 (by omega), if_neg (by simp; omega), bnd (Str.app?_ok (by omega))]

theorem feed_no (k : Nat) (b s : Str) (hb : b.length ≤ 16000) (h : 16000 < b.length + s.length) : F12 k ⟨b⟩ s = some (⟨b⟩, 13) := by
  unfold F12
  dsimp only
  rw [Str.len_nat, Str.len_nat, sb64 (by omega), if_pos (by simp; omega)]

theorem hd_one (c : UInt8) (r : Str) : hd (4 :: 130 :: 0 :: c :: r) = (4, (c.toNat : Int), 0) := by
  have hc := c.toNat_lt
  simp only [hd]
  rw [if_neg (by decide), if_neg (by decide), if_neg (by decide), if_neg (by simp), if_neg]
  · simp [be]
  · simp [be]; omega

theorem nx_one (c : UInt8) (z r : Str) (hz : z.length = c.toNat) : nx (4 :: 130 :: 0 :: c :: (z ++ r)) = (r, 4 :: 130 :: 0 :: c :: z, 0) := by
  unfold nx
  rw [hd_one]
  dsimp only
  rw [if_pos rfl, if_neg (by simp; omega), show ((4 : Int) + c.toNat).toNat = z.length + 1 + 1 + 1 + 1 by omega]
  simp

theorem shr0 (n : Nat) (h : n < 256) : shr? .i64 (n : Int) 8 = some 0 := by
  have : (List.range 256).all (fun n => shr? .i64 (n : Int) 8 == some 0) = true := by kernel_rfl
  simpa using List.all_eq_true.1 this n (by simp; omega)

theorem cvb (n : Nat) (h : n < 256) : Str.of (some [cv .u8 0, cv .u8 (n : Int)]) = [0, UInt8.ofNat n] := by
  have : (List.range 256).all (fun n => Str.of (some [cv .u8 0, cv .u8 (n : Int)]) == [0, UInt8.ofNat n]) = true := by kernel_rfl
  simpa using List.all_eq_true.1 this n (by simp; omega)

theorem F4_true (n k : Int) (hn : (Lit.int .u8 n).wf = true) (hk : (Lit.int .u16 k).wf = true) : F4 4000 n k = some true := by
  have hn : 0 ≤ n ∧ n ≤ 255 := by simpa [Lit.wf, IntKind.min, IntKind.max, IntKind.signed, IntKind.bits] using hn
  have hk : 0 ≤ k ∧ k ≤ 65535 := by simpa [Lit.wf, IntKind.min, IntKind.max, IntKind.signed, IntKind.bits] using hk
  obtain ⟨m, hm, e1⟩ := rem?_nat (a := k) (n := 200) hk.1 (by omega)
  obtain ⟨r, hr, e2⟩ := rem?_nat (a := n) (n := 3) hn.1 (by omega)
  rw [show ((200 : Nat) : Int) = 200 from rfl] at e1
  rw [show ((3 : Nat) : Int) = 3 from rfl] at e2
  have e3 : ad .i64 (m : Int) 10 = ((m + 10 : Nat) : Int) := by rw [ad64 (by omega)]; omega
  unfold F4
  rw [bnd (F9_true 4000 (by omega)), ite_nt, bnd (show F11 4000 = some ⟨[]⟩ from rfl), cv64 (by omega), bnd e1, e3, bnd (shr0 (m + 10) (by omega)), cvb (m + 10) (by omega), bnd (Str.app?_ok (by simp)), bnd (make_ok (m + 10) (by omega))]
  generalize hz : Str.of (some (List.replicate (m + 10) (0 : Int))) = z
  have hzl : z.length = m + 10 := by rw [← hz, of_zeros]
  have hc : (UInt8.ofNat (m + 10)).toNat = z.length := by rw [hzl]; exact of256 _ (by omega)
  generalize UInt8.ofNat (m + 10) = c at hc
  obtain ⟨w, hw, hll, hx1, hx2⟩ : ∃ w : Str, Str.app? ([4, 130] ++ [0, c]) z = some w ∧ w.length = m + 14 ∧ nx w = ([], w, 0) ∧ ∀ y, nx (w ++ y) = (y, w, 0) := by
    refine ⟨4 :: 130 :: 0 :: c :: z, Str.app?_ok (by simp; omega), by simp only [List.length_cons]; omega, ?_, fun y => nx_one c z y hc.symm⟩
    have := nx_one c z [] hc.symm
    rwa [List.append_nil] at this
  rw [bnd hw]
  rw [bnd (show F12 4000 ⟨[]⟩ w = some (⟨w⟩, 0) from feed_ok 4000 [] w (by rw [hll]; simp; omega))]
  rw [ite_neg' (show ((0 : Int) != 0) = false from rfl), bnd e2]
  have hl : Str.len w = ((m + 14 : Nat) : Int) := by rw [Str.len_nat, hll]
  have hN : ad .i64 (sb .i64 (sb .i64 16000 (Str.len w)) 1) (cv .i64 (r : Int)) = ((16000 - (m + 14) - 1 + r : Nat) : Int) := by
    have a1 : sb .i64 16000 (Str.len w) = ((16000 - (m + 14) : Nat) : Int) := by rw [hl, sb64 (by omega)]; omega
    have a2 : sb .i64 ((16000 - (m + 14) : Nat) : Int) 1 = ((16000 - (m + 14) - 1 : Nat) : Int) := by rw [sb64 (by omega)]; omega
    rw [a1, a2, cv64 (by omega), ad64 (by omega)]; omega
  rw [hN, bnd (make_ok _ (by omega)), cv64 (by omega), hl]
  generalize hy : Str.of (some (List.replicate (16000 - (m + 14) - 1 + r) (0 : Int))) = y
  have hyl : y.length = 16000 - (m + 14) - 1 + r := by rw [← hy, of_zeros]
  by_cases h2 : r = 2
  · subst h2
    rw [bnd (feed_no 4000 w y (by rw [hll]; omega) (by rw [hll]; omega)), bnd (show (if (((2 : Nat) : Int) == 2) = true then some (13 : Int) else some 0) = some 13 from rfl)]
    dsimp only
    rw [bnd (nextA 4000 (by omega) w (by rw [hll]; omega)), hx1]
    dsimp only
    rw [bnd (feed_ok 4000 [] w (by rw [hll]; simp; omega))]
    simp
  · rw [bnd (feed_ok 4000 w y (by rw [hll]; omega)), bnd (show (if ((r : Int) == 2) = true then some (13 : Int) else some 0) = some 0 from by rw [if_neg (by simp; omega)])]
    dsimp only
    rw [bnd (nextA 4000 (by omega) (w ++ y) (by rw [List.length_append, hll]; omega)), hx2]
    dsimp only
    rw [sb64 (by omega)]
    by_cases h3 : y.length + (m + 14) ≤ 16000
    · rw [bnd (feed_ok 4000 y w (by rw [hll]; omega))]
      simp; omega
    · rw [bnd (feed_no 4000 y w (by omega) (by rw [hll]; omega))]
      simp; omega

theorem frameRoom_true (a0 a1 : Int) (o0 : (Lit.int .u8 a0).wf = true) (o1 : (Lit.int .u16 a1).wf = true) : evw env 4 [.int .u8 a0, .int .u16 a1] [] = some (.bool true, [], false) := by
  exact s4 4000 (F4_true a0 a1 o0 o1) rfl []
end Go.Proofs.Ythcchjhieolflaa.M
