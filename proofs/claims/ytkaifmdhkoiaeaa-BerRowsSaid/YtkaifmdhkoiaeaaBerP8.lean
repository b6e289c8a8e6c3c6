/- Part of the proof: the runs of functions on the abstract machine. -/
import Derived.Test.YtkaifmdhkoiaeaaBerP7
namespace Go.Proofs.Ytkaifmdhkoiaeaa.M
open Go Go.Pam
set_option maxRecDepth 20000

theorem rb_ok : ∀ (m k : Nat), m + 40 ≤ k → ∀ e : El, Ok_Api_Element e → Few m e → Fm m e → RB m k e
  | 0, k, hk, e, _, h, _ => h.elim
  | m + 1, k, hk, e, ho, h, hf => by
    obtain ⟨k, rfl⟩ : ∃ j, k = j + 1 := ⟨k - 1, by omega⟩
    intro j b s post fr en d at0 hD hd1 hdj hb hs he hen hs6
    obtain ⟨j, rfl⟩ : ∃ j', j = j' + 1 := by
      cases j with
      | zero => exact hD.elim
      | succ j => exact ⟨j, rfl⟩
    obtain ⟨f1, f2, f3⟩ := hf
    simp only [bytesS] at hb
    cases hc : cat (bytesS m) e.Body (Sl.l e.Kids) with
    | none => rw [hc] at hb; cases hb
    | some B =>
      rw [hc] at hb
      simp only at hb
      have hl : B.length ≤ 4000 := Classical.byContradiction fun hn => by rw [if_neg hn] at hb; cases hb
      rw [if_pos hl] at hb
      injection hb with hb
      obtain ⟨L, hL⟩ : ∃ L, L = (lenS B.length).length := ⟨_, rfl⟩
      have hL3 := lenS_len B.length
      have hbl : b.length = 1 + L + B.length := by rw [← hb, hL]; simp; omega
      obtain ⟨sub, hsub⟩ : ∃ sub, sub = (s.take en).drop fr := ⟨_, rfl⟩
      have hsub2 : sub = UInt8.ofNat e.Tag.toNat :: (lenS B.length ++ (B ++ post.take (en - fr - b.length))) := by
        rw [hsub, List.drop_take, hs, List.take_append, List.take_of_length_le (by omega), ← hb]
        simp
      have hhd : hd sub = (((1 + L : Nat) : Int), (B.length : Int), 0) := by rw [hsub2, hd_write ho.h0 f1 B.length hl, hL]
      have hsl : sub.length ≤ 6000 := by rw [hsub, List.length_drop, List.length_take]; omega
      have e1 : Str.sub? s (fr : Int) (en : Int) = some sub := by rw [Str.sub?_nat (by omega) hen, hsub]
      have e2 := F13_eq k (by omega) sub (by omega)
      rw [hhd] at e2
      have hd20 : decide (d > 20) = false := by simp; omega
      have a0 : sb .i64 (en : Int) fr = (en : Int) - fr := sb64 (by omega)
      have a1 : sb .i64 (sb .i64 (en : Int) fr) ((1 + L : Nat) : Int) = (en : Int) - fr - ((1 + L : Nat) : Int) := by rw [a0, sb64 (by omega)]
      have a2 : ad .i64 (fr : Int) ((1 + L : Nat) : Int) = ((fr + (1 + L) : Nat) : Int) := by rw [ad64 (by omega)]; omega
      have a3 : ad .i64 ((fr + (1 + L) : Nat) : Int) (B.length : Int) = ((fr + b.length : Nat) : Int) := by rw [ad64 (by omega)]; omega
      have c1 : decide ((B.length : Int) > (en : Int) - fr - ((1 + L : Nat) : Int)) = false := by simp; omega
      have hfr : s[fr]? = some (UInt8.ofNat e.Tag.toNat) := by
        have h0 : (s.drop fr)[0]? = s[fr + 0]? := List.getElem?_drop
        rw [hs, ← hb] at h0
        exact h0.symm
      have e5 : Str.at? s (fr : Int) = some e.Tag := by rw [Str.at?_nat, hfr]; simp only [Option.map_some]; rw [byte_tag ho.h0]
      have hdrop : s.drop (fr + (1 + L)) = B ++ post := by
        rw [← List.drop_drop, hs, ← hb, hL]
        rw [show 1 + (lenS B.length).length = (lenS B.length).length + 1 by omega]
        simp
      rw [F22, ite_neg' hd20, bnd e1, bnd e2]
      simp only [a1, a2, a3, c1]
      rw [bnd (show (if ((0 : Int) == 0 && false) = true then some (10 : Int) else some 0) = some 0 from rfl), bnd (show (if ((0 : Int) == 10 && decide (d > 1)) = true then some (11 : Int) else some 0) = some 0 from rfl), ite_neg' (show ((0 : Int) != 0) = false from rfl), bnd e5]
      by_cases ht : bAnd .u8 e.Tag 32 = 0
      · have hk0 := f2 ht
        rw [hk0] at hc
        injection hc with hc
        have e6 : Str.sub? s ((fr + (1 + L) : Nat) : Int) ((fr + b.length : Nat) : Int) = some B := by
          rw [Str.sub?_nat (by omega) (by omega), List.drop_take, hdrop, show fr + b.length - (fr + (1 + L)) = B.length by omega, List.take_left']
          rfl
        rw [ite_pos' (by simpa using ht), bnd e6]
        exact ⟨fr, ⟨e.Tag, B, none⟩, rfl, rfl, hc, by rw [hk0]; trivial⟩
      · obtain ⟨hb0, hkids⟩ := f3 ht
        rw [hb0] at hc
        have := h.1
        obtain ⟨at', acc', ys, g1, g2, g3⟩ := back_loop m k (by omega) d ⟨hd1, by omega⟩ j (by omega) s hs6 B.length (fr + (1 + L)) (fr + b.length) (by omega) (by omega) ⟨0, [], none⟩ e.Tag (Sl.l e.Kids)
          (fun x hx => ⟨rb_ok m k (by omega) x (ho.h2.2 x hx) (h.2.2 x hx) (hkids x hx), hD x hx⟩) B post (fr + (1 + L)) k none fr hc hdrop (by omega) (by omega) (by have h0 : (Sl.l (none : Sl El)).length = 0 := rfl; omega)
        rw [ite_neg' (by simpa using ht), bnd g3]
        refine ⟨at', ⟨e.Tag, [], acc'⟩, rfl, rfl, hb0, ?_⟩
        show All2 (Eqv m) (Sl.l e.Kids) acc'.l
        rw [g1]
        exact g2

/-- Cut off, it is too short. -/
theorem hd_cut {t : Int} (ht : (Lit.int .u8 t).wf = true) (h31 : bAnd .u8 t 31 ≠ 31) (B : Str) (hn : B.length ≤ 4000) (q : Nat) (hq : q < 1 + (lenS B.length).length + B.length) :
    ∃ hh sz e : Int, hd ((UInt8.ofNat t.toNat :: (lenS B.length ++ B)).take q) = (hh, sz, e) ∧ (e = 10 ∨ e = 0 ∧ 0 ≤ hh ∧ hh ≤ 6 ∧ sz > (q : Int) - hh) := by
  cases q with
  | zero => exact ⟨0, 0, 10, rfl, .inl rfl⟩
  | succ q =>
    rw [List.take_succ_cons]
    generalize hnn : B.length = n at *
    unfold lenS at hq ⊢
    split
    · rename_i h1
      rw [if_pos h1] at hq
      cases q with
      | zero => simp only [List.take_zero, hd, byte_tag ht]; rw [if_neg h31]; exact ⟨0, 0, 10, rfl, .inl rfl⟩
      | succ q =>
        simp only [List.cons_append, List.nil_append, List.take_succ_cons, hd, byte_tag ht]
        rw [if_neg h31, of256 n (by omega), if_pos (by omega)]
        simp only [List.length_singleton] at hq
        exact ⟨2, n, 0, rfl, .inr ⟨rfl, by omega, by omega, by omega⟩⟩
    · rename_i h1
      rw [if_neg h1] at hq
      split
      · rename_i h2
        rw [if_pos h2] at hq
        simp only [List.length_cons, List.length_nil] at hq
        match q, hq with
        | 0, _ => simp only [List.take_zero, hd, byte_tag ht]; rw [if_neg h31]; exact ⟨0, 0, 10, rfl, .inl rfl⟩
        | 1, _ =>
          simp only [List.cons_append, List.nil_append, List.take_succ_cons, List.take_zero, hd, byte_tag ht]
          rw [if_neg h31, show (129 : UInt8).toNat = 129 from rfl, if_neg (by omega), if_neg (by omega), if_pos (by simp)]
          exact ⟨0, 0, 10, rfl, .inl rfl⟩
        | q + 2, hq =>
          simp only [List.cons_append, List.nil_append, List.take_succ_cons, hd, byte_tag ht]
          rw [if_neg h31, show (129 : UInt8).toNat = 129 from rfl, if_neg (by omega), if_neg (by omega), if_neg (by simp), if_neg]
          · simp only [List.take_succ_cons, List.take_zero, List.foldl_cons, List.foldl_nil, be, of256 n (by omega)]
            exact ⟨_, _, 0, rfl, .inr ⟨rfl, by simp, by simp, by simp; omega⟩⟩
          · simp only [List.take_succ_cons, List.take_zero, List.foldl_cons, List.foldl_nil, be, of256 n (by omega)]
            omega
      · rename_i h2
        rw [if_neg h2] at hq
        simp only [List.length_cons, List.length_nil] at hq
        have hlo : (UInt8.ofNat n).toNat = n % 256 := by rw [UInt8.toNat_ofNat']
        match q, hq with
        | 0, _ => simp only [List.take_zero, hd, byte_tag ht]; rw [if_neg h31]; exact ⟨0, 0, 10, rfl, .inl rfl⟩
        | 1, _ =>
          simp only [List.cons_append, List.nil_append, List.take_succ_cons, List.take_zero, hd, byte_tag ht]
          rw [if_neg h31, show (130 : UInt8).toNat = 130 from rfl, if_neg (by omega), if_neg (by omega), if_pos (by simp)]
          exact ⟨0, 0, 10, rfl, .inl rfl⟩
        | 2, _ =>
          simp only [List.cons_append, List.nil_append, List.take_succ_cons, List.take_zero, hd, byte_tag ht]
          rw [if_neg h31, show (130 : UInt8).toNat = 130 from rfl, if_neg (by omega), if_neg (by omega), if_pos (by simp)]
          exact ⟨0, 0, 10, rfl, .inl rfl⟩
        | q + 3, hq =>
          simp only [List.cons_append, List.nil_append, List.take_succ_cons, hd, byte_tag ht]
          rw [if_neg h31, show (130 : UInt8).toNat = 130 from rfl, if_neg (by omega), if_neg (by omega), if_neg (by simp), if_neg]
          · simp only [List.take_succ_cons, List.take_zero, List.foldl_cons, List.foldl_nil, be, of256 (n / 256) (by omega), hlo]
            exact ⟨_, _, 0, rfl, .inr ⟨rfl, by simp, by simp, by simp; omega⟩⟩
          · simp only [List.take_succ_cons, List.take_zero, List.foldl_cons, List.foldl_nil, be, of256 (n / 256) (by omega), hlo]
            omega
end Go.Proofs.Ytkaifmdhkoiaeaa.M
