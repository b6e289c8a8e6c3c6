/- Filters: what was printed is read back. -/
import Derived.Test.YthkjepoaddfoiaaFilU
namespace Go.Proofs.Ythkjepoaddfoiaa.M
open Go Go.Pam
set_option maxRecDepth 20000
set_option linter.unusedVariables false
set_option linter.unusedSimpArgs false

def chk2 (n : Nat) : Bool :=
 (Lib.indexByte HEX (Int.toNat ((hexB (n / 16)).toNat : Int)).toUInt8 == ((n / 16 : Nat) : Int)) && (Lib.indexByte HEX (Int.toNat ((hexB (n % 16)).toNat : Int)).toUInt8 == ((n % 16 : Nat) : Int)) &&
 (match shl? .i64 (imax ((n / 16 : Nat) : Int) 0) 4 with | some z => cv .u8 (bOr .i64 z (imax ((n % 16 : Nat) : Int) 0)) == (n : Int) | none => false) &&
 (decide ((hexB (n / 16)).toNat ≠ 0) && decide ((hexB (n % 16)).toNat ≠ 0))
theorem chk2_all : (List.range 256).all chk2 = true := by kernel_rfl
theorem chk2_of {n : Nat} (h : n < 256) : Lib.indexByte HEX (Int.toNat ((hexB (n / 16)).toNat : Int)).toUInt8 = ((n / 16 : Nat) : Int) ∧ Lib.indexByte HEX (Int.toNat ((hexB (n % 16)).toNat : Int)).toUInt8 = ((n % 16 : Nat) : Int) ∧
  ∃ z, shl? .i64 (imax ((n / 16 : Nat) : Int) 0) 4 = some z ∧ cv .u8 (bOr .i64 z (imax ((n % 16 : Nat) : Int) 0)) = (n : Int) := by
 have := List.all_eq_true.1 chk2_all n (List.mem_range.2 h)
 simp only [chk2, Bool.and_eq_true, beq_iff_eq] at this
 refine ⟨this.1.1.1, this.1.1.2, ?_⟩
 have h3 := this.1.2
 split at h3
 ·rename_i z hz; exact ⟨z, hz, by simpa using h3⟩
 ·cases h3

structure At (r : Rd) (p : Str) : Prop where
 ok : r.fails = false
 lo : 0 ≤ r.at_
 dr : r.s_.drop r.at_.toNat = p

def fwd (r : Rd) (n : Nat) : Rd := ⟨r.s_, r.at_ + n, r.left, false⟩

theorem At.len {r : Rd} {p : Str} (h : At r p) (hp : p ≠ []) : r.at_ + (p.length : Int) = (r.s_.length : Int) := by
 have h1 := h.dr
 have h0 := h.lo
 have : (r.s_.drop r.at_.toNat).length = p.length := by rw [h1]
 rw [List.length_drop] at this
 have : 0 < p.length := List.length_pos_iff.2 hp
 omega

theorem At.okr {r : Rd} {p : Str} (h : At r p) (hle : r.at_ ≤ (r.s_.length : Int)) : Okr r.s_ r := ⟨rfl, h.lo, by omega, fun _ => hle⟩

theorem At.fwd {r : Rd} {p q : Str} (h : At r (p ++ q)) : At (fwd r p.length) q := by
 refine ⟨rfl, by have := h.lo; simp only [M.fwd]; omega, ?_⟩
 have h0 := h.lo
 have : (r.at_ + (p.length : Int)).toNat = r.at_.toNat + p.length := by omega
 simp only [M.fwd, this]
 rw [← List.drop_drop, h.dr, List.drop_left]

theorem At.nx {r : Rd} {c : UInt8} {p : Str} (h : At r (c :: p)) : nx r = (c.toNat : Int) := by
 have hl := h.len (by simp)
 have h0 := h.lo
 unfold M.nx
 have hc : (r.fails || decide (r.at_ ≥ Str.len r.s_)) = false := by
  rw [h.ok, Bool.false_or, decide_eq_false_iff_not]; simp only [Str.len, List.length_cons] at hl ⊢; omega
 rw [hc, if_neg (by simp)]
 have : r.s_[r.at_.toNat]? = some c := by
  have := congrArg (fun l => l[0]?) h.dr
  simpa using this
 rw [List.getD_eq_getElem?_getD, this]
 rfl

theorem fwd_fwd (r : Rd) (a b : Nat) : fwd (fwd r a) b = fwd r (a + b) := by
 simp only [fwd]
 congr 1
 omega

theorem fwd_zero {r : Rd} (h : r.fails = false) : fwd r 0 = r := by
 cases r
 simp only at h
 subst h
 simp [fwd]

theorem f46B (k : Nat) : ∀ (v : Str) (n : Nat) (x : Sl Int) (r : Rd) (t : UInt8) (rest : Str), At r (escS v ++ t :: rest) → (t = 42 ∨ t = 40 ∨ t = 41) → r.s_.length ≤ 160000 → v.length < n → (Sl.l x).length + v.length ≤ 200000 →
  ∃ x', F46_L0 k n x r = some (x', fwd r (escS v).length) ∧ Sl.l x' = Sl.l x ++ v.map fun c => (c.toNat : Int)
 | v, 0, x, r, t, rest, _, _, _, hn, _ => by omega
 | [], n + 1, x, r, t, rest, h, ht, hs, _, _ => by
  have h' : At r (t :: rest) := h
  have hlen := h'.len (by simp)
  simp only [List.length_cons] at hlen
  have hnx := h'.nx
  rw [F46_L0, if_pos (by rw [h.ok]; rfl), bnd (f40 k (h'.okr (by omega))), hnx, if_pos (by rcases ht with rfl | rfl | rfl <;> simp)]
  refine ⟨x, ?_, by simp⟩
  rw [show (escS []).length = 0 from rfl, fwd_zero h.ok]
 | c :: v, n + 1, x, r, t, rest, h, ht, hs, hn, hl => by
  have hesc : escS (c :: v) = escB c ++ escS v := rfl
  rw [hesc, List.append_assoc] at h
  have hc256 := c.toNat_lt
  obtain ⟨z, z1, z2⟩ := Sl.app?_l (α := Int) (bytes := 1) (x := x) (ys := [(c.toNat : Int)]) (by simp only [List.length_cons] at hl; simp; omega)
  have hnext := h.fwd
  obtain ⟨x', e1, e2⟩ := f46B k v n z (fwd r (escB c).length) t rest hnext ht hs (by simp only [List.length_cons] at hn; omega) (by rw [z2]; simp only [List.length_append, List.length_cons, List.length_nil] at hl ⊢; omega)
  refine ⟨x', ?_, by rw [e2, z2]; simp⟩
  rw [fwd_fwd] at e1
  rw [hesc, List.length_append]
  rw [← e1]
  by_cases hsp : spec c.toNat = true
  ·have hb : escB c = [92, hexB (c.toNat / 16), hexB (c.toNat % 16)] := by unfold escB; rw [if_pos hsp]
   rw [hb] at h ⊢
   have h0 : At r (92 :: hexB (c.toNat / 16) :: hexB (c.toNat % 16) :: (escS v ++ t :: rest)) := h
   have hlen := h0.len (by simp)
   simp only [List.length_cons] at hlen
   have h1 : At (fwd r 1) (hexB (c.toNat / 16) :: hexB (c.toNat % 16) :: (escS v ++ t :: rest)) := At.fwd (p := [92]) h0
   have h2 : At (fwd r 2) (hexB (c.toNat % 16) :: (escS v ++ t :: rest)) := At.fwd (p := [92, hexB (c.toNat / 16)]) h0
   have hlo := h.lo
   obtain ⟨g1, g2, zz, g3, g4⟩ := chk2_of hc256
   unfold HEX at g1 g2
   have n0 : nx r = 92 := h0.nx
   have a1 : ad .i64 r.at_ 1 = r.at_ + 1 := ad64 (by omega)
   have a2 : ad .i64 (r.at_ + 1) 1 = r.at_ + 2 := by rw [ad64 (by omega)]; omega
   have a3 : ad .i64 (r.at_ + 2) 1 = r.at_ + 3 := by rw [ad64 (by omega)]; omega
   have q1 : F40 k ⟨r.s_, r.at_ + 1, r.left, r.fails⟩ = some ((hexB (c.toNat / 16)).toNat : Int) := by
    have : (⟨r.s_, r.at_ + 1, r.left, r.fails⟩ : Rd) = fwd r 1 := by rw [h.ok]; rfl
    rw [this, f40 k (h1.okr (show r.at_ + ((1 : Nat) : Int) ≤ (r.s_.length : Int) by omega)), h1.nx]
   have q2 : F40 k ⟨r.s_, r.at_ + 2, r.left, r.fails⟩ = some ((hexB (c.toNat % 16)).toNat : Int) := by
    have : (⟨r.s_, r.at_ + 2, r.left, r.fails⟩ : Rd) = fwd r 2 := by rw [h.ok]; rfl
    rw [this, f40 k (h2.okr (show r.at_ + ((2 : Nat) : Int) ≤ (r.s_.length : Int) by omega)), h2.nx]
   have hge : decide (r.at_ ≥ Str.len r.s_) = false := by rw [decide_eq_false_iff_not]; simp only [Str.len]; omega
   rw [F46_L0, if_pos (by rw [h.ok]; rfl), bnd (f40 k (h0.okr (by omega))), n0, hge, if_neg (by simp), if_pos (by simp), a1, a2, a3, bnd q1, bnd q2, g1, g2, bnd g3, g4]
   simp only [Option.bind_some]
   rw [Sl.l_some, bnd z1]
   have d1 : decide (((c.toNat / 16 : Nat) : Int) < 0) = false := by rw [decide_eq_false_iff_not]; omega
   have d2 : decide (((c.toNat % 16 : Nat) : Int) < 0) = false := by rw [decide_eq_false_iff_not]; omega
   rw [h.ok, d1, d2]
   rfl
  ·have hb : escB c = [c] := by unfold escB; rw [if_neg hsp]
   rw [hb] at h ⊢
   have h0 : At r (c :: (escS v ++ t :: rest)) := h
   have hlen := h0.len (by simp)
   simp only [List.length_cons] at hlen
   have hlo := h.lo
   have n0 := h0.nx
   have a1 : ad .i64 r.at_ 1 = r.at_ + 1 := ad64 (by omega)
   have hge : decide (r.at_ ≥ Str.len r.s_) = false := by rw [decide_eq_false_iff_not]; simp only [Str.len]; omega
   simp only [spec, Bool.or_eq_true, decide_eq_true_eq, beq_iff_eq, not_or] at hsp
   have c42 : ((c.toNat : Int) == 42) = false := by rw [beq_eq_false_iff_ne]; omega
   have c40 : ((c.toNat : Int) == 40) = false := by rw [beq_eq_false_iff_ne]; omega
   have c41 : ((c.toNat : Int) == 41) = false := by rw [beq_eq_false_iff_ne]; omega
   have c92 : ((c.toNat : Int) == 92) = false := by rw [beq_eq_false_iff_ne]; omega
   rw [F46_L0, if_pos (by rw [h.ok]; rfl), bnd (f40 k (h0.okr (by omega))), n0, hge, c42, c40, c41, if_neg (by simp), c92, if_neg (by simp), a1]
   simp only [Option.bind_some]
   rw [Sl.l_some, bnd z1, h.ok]
   rfl

theorem str_of {x : Sl Int} {v : Str} (h : Sl.l x = v.map fun c => (c.toNat : Int)) : Str.of x = v := by
 unfold Str.of
 rw [h, List.map_map]
 conv => rhs; rw [← List.map_id v]
 apply List.map_congr_left
 intro c _
 show UInt8.ofNat ((c.toNat : Int).toNat) = c
 rw [Int.toNat_natCast, UInt8.ofNat_toNat]

theorem f46b {k : Nat} {v : Str} {r : Rd} {t : UInt8} {rest : Str} (h : At r (escS v ++ t :: rest)) (ht : t = 42 ∨ t = 40 ∨ t = 41) (hs : r.s_.length ≤ 160000) (hv : v.length ≤ 1000) (hk : 160100 ≤ k) : F46 k r = some (fwd r (escS v).length, v) := by
 obtain ⟨x', e1, e2⟩ := f46B k v k none r t rest h ht hs (by omega) (by rw [Sl.l_none]; simp; omega)
 unfold F46
 rw [bnd e1]
 simp only
 rw [str_of (by rw [e2, Sl.l_none, List.nil_append])]
end Go.Proofs.Ythkjepoaddfoiaa.M
